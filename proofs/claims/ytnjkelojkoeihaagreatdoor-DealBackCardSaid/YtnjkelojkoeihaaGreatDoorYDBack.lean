/- consistorylaw18.DealBack, walked (printed by mk_dback.py). -/
import Derived.Test.YtnjkelojkoeihaaGreatDoorYDealSharesCard
namespace Go.Proofs.YtnjkelojkoeihaaGreatDoor
open Go Go.RowKit Go.Shelf

/-- A slice of pairs in a block that is none of another slice's. -/
theorem one_apart {X : Nat → Prop} {w : World} {b n c : Nat} {xs : List (Int × Int)} {r : Option Nat} (h : Sl encP X w (.slice (some ⟨b, 0, none⟩) n c) xs) (hr : some b ≠ r) : Sl encP (fun g => TT g ∧ some g ≠ r) w (.slice (some ⟨b, 0, none⟩) n c) xs := by
  obtain ⟨A, c', e, h1, h2, h3⟩ := h
  refine ⟨A, c', e, h1, h2, fun hn => ?_⟩
  obtain ⟨g, o, eA, hlt, _, hi⟩ := h3 hn
  refine ⟨g, o, eA, hlt, ⟨trivial, fun e2 => ?_⟩, hi⟩
  rw [eA] at e
  injection e with e _ _
  injection e with e
  injection e with e _ _
  exact hr (by rw [e]; exact e2)
set_option maxRecDepth 100000 in
set_option maxHeartbeats 8000000 in
theorem dback18_any (p : Par) (v : Value) (l : List Int) (seed ia jb mb : Int) (w : World) (hp : p.ok) (h : Sl encU (fun _ => True) w v l) (hsd : U64 seed) (hia : I64 ia) (hjb : I64 jb) (hmb : I64 mb) (hT : TabsAt w) :
    Calls Tryz.prog 5 #[p.v, v, .int .u64 seed, .int .i64 ia, .int .i64 jb, .int .i64 mb] w fun e w' => e = .returned (.bool true) ∧ w.grownBy w' none := by
  have HP := Lib.hid hp
  have HL := Lib.hid h
  obtain ⟨A, c, rfl, hl1, hl2⟩ := h.form
  have HM := Lib.hid (fun (w' : World) (hg : w.grownBy w' none) => may_any p w' hp (hT.kept hg))
  have HTB := Lib.hid hT
  have HWK := Lib.hid (fun (w' : World) (hg : w.grownBy w' none) => works18_any w' (hT.kept hg))
  have HSD := Lib.hid hsd
  have HQ : Hid (U64 p.Q) := Lib.hid hp.Q
  clear h hp hT hsd
  obtain ⟨n0, hnl⟩ : ∃ n, n = l.length := ⟨_, rfl⟩
  rw [← hnl] at hl1 HL ⊢
  obtain ⟨w0, hw0⟩ : ∃ y, y = w.alloc (Obj.cells p.cells 24) := ⟨_, rfl⟩
  have HB0 : Hid (Bk w0 w.heap.size 24 p.cells) := Lib.hid (by rw [hw0]; exact Bk.new w _ _)
  have HG0 : Hid (w.grownBy w0 none) := Lib.hid (by rw [hw0]; exact World.grownBy_alloc w _ none)
  cases hm : mayP p with
  | false =>
    rw [hm] at HM
    clear hm hnl
    go_enter Tryz.func5, Tryz.ntmps5
    go_wp2_with fail
    rw [← hw0]
    clear hw0
    refine (HWK.out _ HG0.out).mono ?_
    rintro e w1 ⟨rfl, hg⟩
    have HG1 := hidTrans hg HG0
    have hp1 := (bkGrown hg HB0).out.prule
    clear hg
    go_wp2_with fail
    refine (HM.out _ HG1.out).mono ?_
    rintro e w2 ⟨rfl, hg⟩
    have HG2 := hidTrans hg HG1
    clear hg
    go_wp2_with fail
    refine (HWK.out _ HG2.out).mono ?_
    rintro e w3 ⟨rfl, hg⟩
    have HG3 := hidTrans hg HG2
    clear hg hp1
    go_wp2
    go_ret
    exact ⟨rfl, HG3.out⟩
  | true =>
    rw [hm] at HM
    by_cases hbig : n0 > 100
    · have hbI : (n0 : Int) > 100 := by omega
      clear hm hbig hnl
      go_enter Tryz.func5, Tryz.ntmps5
      go_wp2_with fail
      rw [← hw0]
      clear hw0
      refine (HWK.out _ HG0.out).mono ?_
      rintro e w1 ⟨rfl, hg⟩
      have HG1 := hidTrans hg HG0
      have hp1 := (bkGrown hg HB0).out.prule
      clear hg
      go_wp2_with fail
      refine (HM.out _ HG1.out).mono ?_
      rintro e w2 ⟨rfl, hg⟩
      have HG2 := hidTrans hg HG1
      clear hg
      go_wp2_with fail
      refine (HWK.out _ HG2.out).mono ?_
      rintro e w3 ⟨rfl, hg⟩
      have HG3 := hidTrans hg HG2
      clear hg hp1
      go_wp2
      go_ret
      exact ⟨rfl, HG3.out⟩
    · have hbI : (n0 : Int) ≤ 100 := by omega
      have HMAY := Lib.hid hm
      have HSZ := Lib.hid (dlt_sizes hm)
      obtain ⟨N, hNN⟩ : ∃ k : Nat, (k : Int) = p.N := ⟨p.N.toNat, by have := HSZ.out; omega⟩
      have HN : Hid ((N : Int) = p.N ∧ 4 ≤ N ∧ N ≤ 7) := Lib.hid (by have := HSZ.out; omega)
      obtain ⟨r, hr⟩ : ∃ r, r = (ia % 18446744073709551616) % p.N := ⟨_, rfl⟩
      have hr1 : 0 ≤ r := by rw [hr]; exact Int.emod_nonneg _ (by have := HN.out; omega)
      have hr2 : r < p.N := by rw [hr]; exact Int.emod_lt_of_pos _ (by have := HN.out; omega)
      have HR : Hid (0 ≤ r ∧ r < p.N ∧ r < 7) := Lib.hid (by have := HN.out; omega)
      obtain ⟨ia1, ia2⟩ := hia
      have e1 : IntKind.u64.wrap ia = ia % 18446744073709551616 := rfl
      have e2 : IntKind.u64.wrap p.N = p.N := IntWalk.u64_in _ (by have := HN.out; omega)
      have e3 : Int.tmod (ia % 18446744073709551616) p.N = r := by rw [hr]; exact Int.tmod_eq_emod_of_nonneg (by omega)
      have e4 : IntKind.i64.wrap r = r := IntWalk.i64_in _ (by have := HN.out; omega)
      have e5 : IntKind.i64.wrap (1 + r) = 1 + r := IntWalk.i64_in _ (by have := HN.out; omega)
      have hall0 : (p.N == 0) = false := by have := HN.out; simp; omega
      have HAR : Hid (ia % 18446744073709551616 % p.N = r) := Lib.hid hr.symm

      obtain ⟨jn, hjj⟩ : ∃ k : Nat, (k : Int) = jb % 18446744073709551616 % p.N := ⟨(jb % 18446744073709551616 % p.N).toNat, by have := Int.emod_nonneg (jb % 18446744073709551616) (show p.N ≠ 0 by have := HN.out; omega); omega⟩
      have hj2 : (jn : Int) < p.N := by rw [hjj]; exact Int.emod_lt_of_pos _ (by have := HN.out; omega)
      have hjN : (jn : Int) < (N : Int) := by have := HN.out; omega
      have hj0 : (0 : Int) ≤ (jn : Int) := Int.natCast_nonneg jn
      have HJ : Hid (jn < N) := Lib.hid (by omega)
      obtain ⟨jb1, jb2⟩ := hjb
      have f1 : IntKind.u64.wrap jb = jb % 18446744073709551616 := rfl
      have f3 : Int.tmod (jb % 18446744073709551616) p.N = (jn : Int) := by rw [hjj]; exact Int.tmod_eq_emod_of_nonneg (by omega)
      have f4 : IntKind.i64.wrap (jn : Int) = (jn : Int) := IntWalk.i64_in _ (by have := HN.out; omega)
      have HJR : Hid (jb % 18446744073709551616 % p.N = (jn : Int)) := Lib.hid hjj.symm
      obtain ⟨s, hs⟩ : ∃ s, s = mb % 18446744073709551616 % p.N := ⟨_, rfl⟩
      have hs1 : 0 ≤ s := by rw [hs]; exact Int.emod_nonneg _ (by have := HN.out; omega)
      have hs2 : s < p.N := by rw [hs]; exact Int.emod_lt_of_pos _ (by have := HN.out; omega)
      have HS : Hid (0 ≤ s ∧ s < 7) := Lib.hid (by have := HN.out; omega)
      obtain ⟨mb1, mb2⟩ := hmb
      have s1 : IntKind.u64.wrap mb = mb % 18446744073709551616 := rfl
      have s3 : Int.tmod (mb % 18446744073709551616) p.N = s := by rw [hs]; exact Int.tmod_eq_emod_of_nonneg (by omega)
      have s5 : IntKind.u64.wrap (1 + s) = 1 + s := IntWalk.u64_in _ (by have := HS.out; omega)
      have HSR : Hid (mb % 18446744073709551616 % p.N = s) := Lib.hid hs.symm
      obtain ⟨t, ht⟩ : ∃ y, y = dltT p + 1 := ⟨_, rfl⟩
      have HT : Hid (t = dltT p + 1 ∧ (t : Int) = p.T + 1 ∧ 2 ≤ t ∧ t ≤ 3) := Lib.hid (by have := HSZ.out; omega)
      have hT1 : IntKind.i64.wrap (p.T + 1) = (t : Int) := by rw [← HT.out.2.1]; exact IntWalk.i64_in _ (by have := HT.out; omega)
      obtain ⟨M, hM⟩ : ∃ y, y = dltM p l seed (1 + r) := ⟨_, rfl⟩
      obtain ⟨Rs, hRs⟩ : ∃ y, y = (List.range N).map fun j : Nat => dltRow p l seed (1 + r) ((j : Int) + 1) := ⟨_, rfl⟩
      obtain ⟨Cs, hCs⟩ : ∃ y, y = (List.range N).map fun j : Nat => dltCol p l seed (1 + r) ((j : Int) + 1) := ⟨_, rfl⟩
      obtain ⟨SX, hSX⟩ : ∃ y, y = dltX p l seed (1 + r) := ⟨_, rfl⟩
      obtain ⟨CM, hCM⟩ : ∃ y, y = dltC p l seed := ⟨_, rfl⟩
      obtain ⟨RW, hRW⟩ : ∃ y, y = dltRow p l seed (1 + r) ((jn : Int) + 1) := ⟨_, rfl⟩
      obtain ⟨CW, hCW⟩ : ∃ y, y = dltCol p l seed (1 + r) ((jn : Int) + 1) := ⟨_, rfl⟩
      obtain ⟨PT, hPT⟩ : ∃ y, y = RW.map (atP p.Q (1 + s)) := ⟨_, rfl⟩
      obtain ⟨PS, hPS⟩ : ∃ y, y = CW.map (atP p.Q (1 + s)) := ⟨_, rfl⟩
      obtain ⟨XA, hXA⟩ : ∃ y, y = PT.map fun z => [z] := ⟨_, rfl⟩
      obtain ⟨XB, hXB⟩ : ∃ y, y = PS.map fun z => [z] := ⟨_, rfl⟩
      have HRWE : Hid (RW.length = dltN p ∧ ∀ c ∈ RW, c.length = t) := Lib.hid (by rw [hRW, ht]; exact ⟨dltRow_len HMAY.out HQ.out _ _ _ _, dltRow_in _ _ _ _ _⟩)
      have HCWE : Hid (CW.length = dltN p ∧ ∀ c ∈ CW, c.length = t) := Lib.hid (by rw [hCW, ht]; exact ⟨dltCol_len HMAY.out HQ.out _ _ _ _, dltCol_in _ _ _ _ _⟩)
      have HME2 : Hid (M.length = dltN p ∧ ∀ x ∈ M, x.length = t ∧ ∀ y ∈ x, y.length = t) := Lib.hid (by rw [hM, ht]; exact ⟨dltM_len HMAY.out HQ.out _ _ _, dltM_rect HMAY.out HQ.out _ _ _⟩)
      have HXAE : Hid (XA.length = dltN p ∧ ∀ c ∈ XA, c.length = 1) := Lib.hid (by rw [hXA, hPT]; exact ⟨by rw [List.length_map, List.length_map]; exact HRWE.out.1, (alone_len _).2⟩)
      have HXBE : Hid (XB.length = dltN p ∧ ∀ c ∈ XB, c.length = 1) := Lib.hid (by rw [hXB, hPS]; exact ⟨by rw [List.length_map, List.length_map]; exact HCWE.out.1, (alone_len _).2⟩)
      have HPL : Hid (PT.length ≤ 10 ∧ PS.length ≤ 10) := Lib.hid (by rw [hPT, hPS, List.length_map, List.length_map, HRWE.out.1, HCWE.out.1]; exact ⟨HSZ.out.2.2.2.1, HSZ.out.2.2.2.1⟩)
      obtain ⟨PK, hPK⟩ : ∃ y, y = packI M RW CW := ⟨_, rfl⟩
      obtain ⟨PK2, hPK2⟩ : ∃ y, y = packI M XA XB := ⟨_, rfl⟩
      have HM1 : Hid (M.length ≤ 10 ∧ ∀ x ∈ M, x.length ≤ 3 ∧ ∀ y ∈ x, y.length ≤ 3) := Lib.hid (by
        have h := HME2.out
        have hz := HSZ.out
        have ht := HT.out
        exact ⟨by omega, fun x hx => ⟨by rw [(h.2 x hx).1]; omega, fun y hy => by rw [(h.2 x hx).2 y hy]; omega⟩⟩)
      have HL1 : Hid ((RW.length ≤ 10 ∧ ∀ x ∈ RW, x.length ≤ 3) ∧ (CW.length ≤ 10 ∧ ∀ x ∈ CW, x.length ≤ 3) ∧ (XA.length ≤ 10 ∧ ∀ x ∈ XA, x.length ≤ 3) ∧ XB.length ≤ 10 ∧ ∀ x ∈ XB, x.length ≤ 3) := Lib.hid (by
        have hz := HSZ.out
        have ht := HT.out
        have a := HRWE.out
        have b := HCWE.out
        have c := HXAE.out
        have d := HXBE.out
        exact ⟨⟨by omega, fun x hx => by rw [a.2 x hx]; omega⟩, ⟨by omega, fun x hx => by rw [b.2 x hx]; omega⟩, ⟨by omega, fun x hx => by rw [c.2 x hx]; omega⟩, by omega, fun x hx => by rw [d.2 x hx]; omega⟩)
      have HOP1 : Hid (∀ v W, Sl encU TT W v PK → Calls Tryz.prog 20 #[p.v, v, .int .i64 (t : Int)] W fun e w' => ∃ a b c, e = .returned (.tuple #[a, b, c, .int .i64 0]) ∧ Sl (encS (encS encU)) TT w' a M ∧ Sl (encS encP) TT w' b RW ∧ Sl (encS encP) TT w' c CW ∧ W.grownBy w' none) := Lib.hid (fun v W hs => by
        obtain ⟨e1, e2, e3, e4, e5⟩ := back_open HMAY.out (M := M) (a := RW) (b := CW) (k := t) HT.out.2.2.2 (by rw [← HT.out.1]; exact HME2.out) HRWE.out HCWE.out
        rw [← hPK] at e1 e2 e3 e4 e5
        have h := open_any p v PK (t : Int) TT W hs e5 ⟨by omega, by have := HT.out; omega⟩
        rw [e1, e2, e3, e4] at h
        refine h.mono ?_
        rintro e w' ⟨a, b, c, rfl, k1, k2, k3, k4⟩
        exact ⟨a, b, c, rfl, (Sl.plain2 k1).more fun _ _ _ => trivial, k2.more fun _ _ _ => trivial, k3.more fun _ _ _ => trivial, k4⟩)
      have HOP2 : Hid (∀ v W, Sl encU TT W v PK2 → Calls Tryz.prog 20 #[p.v, v, .int .i64 1] W fun e w' => ∃ a b c, e = .returned (.tuple #[a, b, c, .int .i64 0]) ∧ Sl (encS (encS encU)) TT w' a M ∧ Sl (encS encP) TT w' b XA ∧ Sl (encS encP) TT w' c XB ∧ W.grownBy w' none) := Lib.hid (fun v W hs => by
        obtain ⟨e1, e2, e3, e4, e5⟩ := back_open HMAY.out (M := M) (a := XA) (b := XB) (k := 1) (by omega) (by rw [← HT.out.1]; exact HME2.out) HXAE.out HXBE.out
        rw [← hPK2] at e1 e2 e3 e4 e5
        have h := open_any p v PK2 ((1 : Nat) : Int) TT W hs e5 ⟨by omega, by omega⟩
        rw [e1, e2, e3, e4] at h
        refine h.mono ?_
        rintro e w' ⟨a, b, c, rfl, k1, k2, k3, k4⟩
        exact ⟨a, b, c, rfl, (Sl.plain2 k1).more fun _ _ _ => trivial, k2.more fun _ _ _ => trivial, k3.more fun _ _ _ => trivial, k4⟩)
      have HPKE : Hid (PK = packI M RW CW ∧ PK2 = packI M XA XB ∧ XA = (PT.map fun z => [z]) ∧ XB = (PS.map fun z => [z]) ∧ PT = RW.map (atP p.Q (1 + s)) ∧ PS = CW.map (atP p.Q (1 + s))) := Lib.hid ⟨hPK, hPK2, hXA, hXB, hPT, hPS⟩
      obtain ⟨SN, hSN⟩ : ∃ y, y = prsN SX := ⟨_, rfl⟩
      obtain ⟨CF, hCF⟩ : ∃ y, y = CM.flatten := ⟨_, rfl⟩
      have HSXE : Hid (SX.length ≤ 10 ∧ CM.length ≤ 10 ∧ (∀ x ∈ CM, x.length ≤ 3) ∧ SN = prsN SX ∧ CF = CM.flatten) := Lib.hid (by
        have hz := HSZ.out
        have ht := HT.out
        exact ⟨by rw [hSX, dltX_len]; omega, by rw [hCM, dltC_len]; omega, fun x hx => by rw [hCM] at hx; rw [dltC_rect HMAY.out HQ.out l seed x hx]; omega, hSN, hCF⟩)
      have HOS : Hid (∀ v W, Sl encU TT W v SN → Calls Tryz.prog 24 #[p.v, v] W fun e w' => ∃ u, e = .returned (.tuple #[u, .int .i64 0]) ∧ Sl encP TT w' u SX ∧ W.grownBy w' none) := Lib.hid (fun v W hs => by
        obtain ⟨e1, e2⟩ := back_pairs HMAY.out (l := SX) (by rw [hSX, dltX_len])
        rw [← hSN] at e1 e2
        have h := openPairs_any p v SN TT W hs (by rw [hSN, prsN_len]; have := HSXE.out.1; omega)
        rw [e1, e2] at h
        refine h.mono ?_
        rintro e w' ⟨u, rfl, k1, k2⟩
        exact ⟨u, rfl, k1.more fun _ _ _ => trivial, k2⟩)
      have HOC : Hid (∀ v W, Sl encU TT W v CF → Calls Tryz.prog 26 #[p.v, v] W fun e w' => ∃ u, e = .returned (.tuple #[u, .int .i64 0]) ∧ Sl (encS encU) TT w' u CM ∧ W.grownBy w' none) := Lib.hid (fun v W hs => by
        obtain ⟨e1, e2⟩ := back_coms HMAY.out (C := CM) (by rw [hCM, dltC_len]) (by rw [hCM]; exact dltC_rect HMAY.out HQ.out l seed)
        rw [← hCF] at e1 e2
        have h := openComs_any p v CF TT W hs (by rw [hCF]; have := flat_le 3 CM HSXE.out.2.2.1; have := HSXE.out.2.1; omega)
        rw [e1, e2] at h
        refine h.mono ?_
        rintro e w' ⟨u, rfl, k1, k2⟩
        exact ⟨u, rfl, (Sl.plain k1).more fun _ _ _ => trivial, k2⟩)
      have hRl : Rs.length = N := by rw [hRs]; simp
      have hCl : Cs.length = N := by rw [hCs]; simp
      have HME : Hid (Rs.length = N ∧ Cs.length = N ∧ (∀ (h : jn < Rs.length), Rs[jn] = RW) ∧ ∀ (h : jn < Cs.length), Cs[jn] = CW) := Lib.hid ⟨hRl, hCl, fun h => by simp [hRs, hRW], fun h => by simp [hCs, hCW]⟩
      have HDL : Hid (∀ W, w.grownBy W none → Calls Tryz.prog 8 #[p.v, .slice A n0 c, .int .u64 seed, .int .i64 (1 + r), .int .i64 p.N] W fun e w' => ∃ vm vr vc vs vk, e = .returned (.tuple #[.agg #[vm, vr, vc], vs, vk, .bool true]) ∧ DL w' vm vr vc M Rs Cs ∧ Sl encP TT w' vs SX ∧ Sl (encS encU) TT w' vk CM ∧ W.grownBy w' none) := Lib.hid (fun W hg => by
        have h := dealt_any p (.slice A n0 c) l seed (1 + r) N W HP.out HMAY.out (HTB.out.kept hg) (HL.out.kept hg) HSD.out (by have := HR.out; omega) (by have := HN.out; omega)
        rw [← hM, ← hRs, ← hCs, ← hSX, ← hCM, HN.out.1] at h
        exact h)
      clear hM hRs hCs hSX hCM hRW hCW hPT hPS hXA hXB hPK hPK2 hSN hCF hRl hCl hjj hs ht
      clear hm hbig hr hnl hNN
      go_enter Tryz.func5, Tryz.ntmps5
      go_wp2_with fail
      rw [← hw0]
      clear hw0
      refine (HWK.out _ HG0.out).mono ?_
      rintro e w1 ⟨rfl, hg⟩
      have HG1 := hidTrans hg HG0
      have hp1 := (bkGrown hg HB0).out.prule
      have HB1 := bkGrown hg HB0
      clear hg
      go_wp2_with fail
      refine (HM.out _ HG1.out).mono ?_
      rintro e w2 ⟨rfl, hg⟩
      have HG2 := hidTrans hg HG1
      have HB2 := bkGrown hg HB1
      have hp2 := HB2.out.prule
      clear hg hp1 HM HB0 HB1
      go_wp2_with fail
      refine (HDL.out _ HG2.out).mono ?_
      rintro e w3 ⟨vm, vr, vc, vs, vk, rfl, hd, hx, hk, hg⟩
      obtain ⟨Am, nm, cm, rfl⟩ := hd.1.shape
      obtain ⟨Ar, cr, er, _, _⟩ := hd.2.1.form
      obtain ⟨Ac, cc, ec, _, _⟩ := hd.2.2.form
      obtain ⟨Ax, nx, cx, rfl⟩ := hx.shape
      obtain ⟨Ak, nk, ck, rfl⟩ := hk.shape
      rw [HME.out.1] at er
      rw [HME.out.2.1] at ec
      subst er ec
      have HG3 := hidTrans hg HG2
      have HB3 := bkGrown hg HB2
      obtain ⟨w4, hw4⟩ : ∃ y, y = w3.alloc (Obj.cells #[.slice Am nm cm, .slice Ar N cr, .slice Ac N cc] 32) := ⟨_, rfl⟩
      obtain ⟨g13, hg13⟩ : ∃ y, y = w3.heap.size := ⟨_, rfl⟩
      have HGA : Hid (w3.grownBy w4 none) := Lib.hid (by rw [hw4]; exact World.grownBy_alloc _ _ none)
      have HB4 : Hid (Bk w4 g13 32 #[.slice Am nm cm, .slice Ar N cr, .slice Ac N cc]) := Lib.hid (by rw [hw4, hg13]; exact Bk.new _ _ _)
      have HD4 := Lib.hid (hd.kept HGA.out)
      have HX4 := Lib.hid (hx.kept HGA.out)
      have HK4 := Lib.hid (hk.kept HGA.out)
      have HG4 := Lib.hid (HG3.out.trans HGA.out)
      have HP4 := Lib.hid (HB3.out.grown HGA.out (by simp))
      have hjR : jn < Rs.length := by rw [HME.out.1]; exact HJ.out
      have hjC : jn < Cs.length := by rw [HME.out.2.1]; exact HJ.out
      obtain ⟨gR, oR, cr', uj, eR, _, _, hcR, hsR⟩ := HD4.out.2.1.atS hjR
      injection eR with eR1 eR2 eR3
      clear eR2
      subst eR1 eR3
      rw [HME.out.2.2.1 hjR] at hsR
      obtain ⟨Aj, nj, cj, rfl⟩ := hsR.shape
      obtain ⟨gC, oC, cc', vj, eC, _, _, hcC, hsC⟩ := HD4.out.2.2.atS hjC
      injection eC with eC1 eC2 eC3
      clear eC2
      subst eC1 eC3
      rw [HME.out.2.2.2 hjC] at hsC
      obtain ⟨Bj, mj, dj, rfl⟩ := hsC.shape
      have HSR := Lib.hid hsR
      have HSC := Lib.hid hsC
      have HCR := Lib.hid hcR
      have HCC := Lib.hid hcC
      have HCELL : Hid (∀ W, w4.grownBy W none → (∀ o, W.cell? ⟨w.heap.size, o, none⟩ = (#[.int .u64 p.P, .int .u64 p.Q, .int .u64 p.G, .int .u64 p.H, .int .i64 p.Nodes, .int .i64 p.N, .int .i64 p.T, .int .i64 p.K, .int .i64 p.D, .int .i64 p.R, .int .i64 p.M, .int .i64 p.X] : Array Value)[o]?) ∧ W.cell? ⟨g13, 0, none⟩ = some (.slice Am nm cm) ∧ W.cell? ⟨g13, 1, none⟩ = some (.slice (some ⟨gR, oR, none⟩) N cr) ∧ W.cell? ⟨g13, 2, none⟩ = some (.slice (some ⟨gC, oC, none⟩) N cc) ∧ W.cell? ⟨gR, oR + jn, none⟩ = some (.slice Aj nj cj) ∧ W.cell? ⟨gC, oC + jn, none⟩ = some (.slice Bj mj dj)) := Lib.hid (fun W h => by
        have hb := HB4.out.grown h (by simp)
        exact ⟨(HP4.out.grown h (by simp)).prule, by simpa using hb.cell 0, by simpa using hb.cell 1, by simpa using hb.cell 2, cellK HCR.out h (by simp), cellK HCC.out h (by simp)⟩)
      have HATR : Hid (∀ W, w4.grownBy W none → Calls Tryz.prog 12 #[.slice Aj nj cj, .int .u64 (1 + s), .int .u64 p.Q] W (Gives encP (fun g => W.heap.size ≤ g) W PT)) := Lib.hid (fun W h => by
        rw [HPKE.out.2.2.2.2.1]
        exact dat_any _ _ _ _ TT W (HSR.out.kept h) ⟨by have := HS.out; omega, by have := HS.out; omega⟩ (by have := HL1.out.1.1; omega) (fun c hc => by have := HL1.out.1.2 c hc; omega))
      have HATC : Hid (∀ W, w4.grownBy W none → Calls Tryz.prog 12 #[.slice Bj mj dj, .int .u64 (1 + s), .int .u64 p.Q] W (Gives encP (fun g => W.heap.size ≤ g) W PS)) := Lib.hid (fun W h => by
        rw [HPKE.out.2.2.2.2.2]
        exact dat_any _ _ _ _ TT W (HSC.out.kept h) ⟨by have := HS.out; omega, by have := HS.out; omega⟩ (by have := HL1.out.2.1.1; omega) (fun c hc => by have := HL1.out.2.1.2 c hc; omega))
      clear hg hd hx hk hp2 HDL HB3 HGA e1 e3 e4 e5 f1 f3 hcR hcC hsR hsC hjR hjC
      go_upto_region 8 with (fail)
      rw [← hw4, ← hg13]
      clear hw4 hg13
      have HD : Hid (w4.grownBy w4.drew none) := Lib.hid (grown_drewN' _ 1)
      have HLI : Hid (∀ W, w4.drew.grownBy W none → (∀ o, W.cell? ⟨w.heap.size, o, none⟩ = (#[.int .u64 p.P, .int .u64 p.Q, .int .u64 p.G, .int .u64 p.H, .int .i64 p.Nodes, .int .i64 p.N, .int .i64 p.T, .int .i64 p.K, .int .i64 p.D, .int .i64 p.R, .int .i64 p.M, .int .i64 p.X] : Array Value)[o]?) ∧ W.cell? ⟨g13, 0, none⟩ = some (.slice Am nm cm) ∧ W.cell? ⟨g13, 1, none⟩ = some (.slice (some ⟨gR, oR, none⟩) N cr) ∧ W.cell? ⟨g13, 2, none⟩ = some (.slice (some ⟨gC, oC, none⟩) N cc) ∧ W.cell? ⟨gR, oR + jn, none⟩ = some (.slice Aj nj cj) ∧ W.cell? ⟨gC, oC + jn, none⟩ = some (.slice Bj mj dj)) := Lib.hid (fun W hg => HCELL.out W (HD.out.trans hg))
      have HPK : Hid (∀ W, w4.drew.grownBy W none → Calls Tryz.prog 21 #[.slice Am nm cm, .slice Aj nj cj, .slice Bj mj dj] W (Gives encU (fun g => W.heap.size ≤ g) W PK)) := Lib.hid (fun W hg => by
        have h := HD.out.trans hg
        rw [HPKE.out.1]
        exact dpack_any _ _ _ M RW CW TT TT TT W (HD4.out.1.kept h) (HSR.out.kept h) (HSC.out.kept h) HM1.out HL1.out.1 HL1.out.2.1)
      have HOP := HOP1
      refine wp_region_mono 27 (by kernel_rfl) (by kernel_rfl) ?_
      -- op 0 (slot 75): load
      refine MonoR.step (Pv.eq (p.v)) [] (by kernel_rfl) (fun w' hw' => ?_) ?_
      · refine ask_do rfl fun K hK => ?_
        have qq := HLI.out w' hw'
        have q0 := qq.1
        have q1 := qq.2.1
        have q2 := qq.2.2.1
        have q3 := qq.2.2.2.1
        have q4 := qq.2.2.2.2.1
        have q5 := qq.2.2.2.2.2
        clear qq
        go_simp
        exact hK _ _ rfl rfl (World.grownBy.refl _ none)
      -- op 1 (slot 76): fieldAddr
      refine MonoR.step (Pv.eq (.pointer (some ⟨g13, 0, none⟩))) [] (by kernel_rfl) (fun w' hw' => ?_) ?_
      · refine ask_do rfl fun K hK => ?_
        go_simp
        exact hK _ _ rfl rfl (World.grownBy.refl _ none)
      -- op 2 (slot 77): load
      refine MonoR.step (Pv.eq (.slice Am nm cm)) [(1, 76)] (by kernel_rfl) (fun w' hw' => ?_) ?_
      · intro x76 h76
        have e76 : x76 = .pointer (some ⟨g13, 0, none⟩) := h76
        clear h76
        subst e76
        refine ask_do rfl fun K hK => ?_
        have qq := HLI.out w' hw'
        have q0 := qq.1
        have q1 := qq.2.1
        have q2 := qq.2.2.1
        have q3 := qq.2.2.2.1
        have q4 := qq.2.2.2.2.1
        have q5 := qq.2.2.2.2.2
        clear qq
        go_simp
        exact hK _ _ rfl rfl (World.grownBy.refl _ none)
      -- op 3 (slot 78): fieldAddr
      refine MonoR.step (Pv.eq (.pointer (some ⟨g13, 1, none⟩))) [] (by kernel_rfl) (fun w' hw' => ?_) ?_
      · refine ask_do rfl fun K hK => ?_
        go_simp
        exact hK _ _ rfl rfl (World.grownBy.refl _ none)
      -- op 4 (slot 79): load
      refine MonoR.step (Pv.eq (.slice (some ⟨gR, oR, none⟩) N cr)) [(3, 78)] (by kernel_rfl) (fun w' hw' => ?_) ?_
      · intro x78 h78
        have e78 : x78 = .pointer (some ⟨g13, 1, none⟩) := h78
        clear h78
        subst e78
        refine ask_do rfl fun K hK => ?_
        have qq := HLI.out w' hw'
        have q0 := qq.1
        have q1 := qq.2.1
        have q2 := qq.2.2.1
        have q3 := qq.2.2.2.1
        have q4 := qq.2.2.2.2.1
        have q5 := qq.2.2.2.2.2
        clear qq
        go_simp
        exact hK _ _ rfl rfl (World.grownBy.refl _ none)
      -- op 5 (slot 80): move
      refine MonoR.step (Pv.eq (.int .i64 (jn : Int))) [] (by kernel_rfl) (fun w' hw' => ?_) ?_
      · refine ask_do rfl fun K hK => ?_
        go_simp
        exact hK _ _ rfl rfl (World.grownBy.refl _ none)
      -- op 6 (slot 81): indexAddr
      refine MonoR.step (Pv.eq (.pointer (some ⟨gR, oR + jn, none⟩))) [(4, 79), (5, 80)] (by kernel_rfl) (fun w' hw' => ?_) ?_
      · intro x79 h79
        intro x80 h80
        have e79 : x79 = .slice (some ⟨gR, oR, none⟩) N cr := h79
        clear h79
        subst e79
        have e80 : x80 = .int .i64 (jn : Int) := h80
        clear h80
        subst e80
        refine ask_do rfl fun K hK => ?_
        go_simp
        exact hK _ _ rfl rfl (World.grownBy.refl _ none)
      -- op 7 (slot 82): load
      refine MonoR.step (Pv.eq (.slice Aj nj cj)) [(6, 81)] (by kernel_rfl) (fun w' hw' => ?_) ?_
      · intro x81 h81
        have e81 : x81 = .pointer (some ⟨gR, oR + jn, none⟩) := h81
        clear h81
        subst e81
        refine ask_do rfl fun K hK => ?_
        have qq := HLI.out w' hw'
        have q0 := qq.1
        have q1 := qq.2.1
        have q2 := qq.2.2.1
        have q3 := qq.2.2.2.1
        have q4 := qq.2.2.2.2.1
        have q5 := qq.2.2.2.2.2
        clear qq
        go_simp
        exact hK _ _ rfl rfl (World.grownBy.refl _ none)
      -- op 8 (slot 83): fieldAddr
      refine MonoR.step (Pv.eq (.pointer (some ⟨g13, 2, none⟩))) [] (by kernel_rfl) (fun w' hw' => ?_) ?_
      · refine ask_do rfl fun K hK => ?_
        go_simp
        exact hK _ _ rfl rfl (World.grownBy.refl _ none)
      -- op 9 (slot 84): load
      refine MonoR.step (Pv.eq (.slice (some ⟨gC, oC, none⟩) N cc)) [(8, 83)] (by kernel_rfl) (fun w' hw' => ?_) ?_
      · intro x83 h83
        have e83 : x83 = .pointer (some ⟨g13, 2, none⟩) := h83
        clear h83
        subst e83
        refine ask_do rfl fun K hK => ?_
        have qq := HLI.out w' hw'
        have q0 := qq.1
        have q1 := qq.2.1
        have q2 := qq.2.2.1
        have q3 := qq.2.2.2.1
        have q4 := qq.2.2.2.2.1
        have q5 := qq.2.2.2.2.2
        clear qq
        go_simp
        exact hK _ _ rfl rfl (World.grownBy.refl _ none)
      -- op 10 (slot 85): move
      refine MonoR.step (Pv.eq (.int .i64 (jn : Int))) [] (by kernel_rfl) (fun w' hw' => ?_) ?_
      · refine ask_do rfl fun K hK => ?_
        go_simp
        exact hK _ _ rfl rfl (World.grownBy.refl _ none)
      -- op 11 (slot 86): indexAddr
      refine MonoR.step (Pv.eq (.pointer (some ⟨gC, oC + jn, none⟩))) [(9, 84), (10, 85)] (by kernel_rfl) (fun w' hw' => ?_) ?_
      · intro x84 h84
        intro x85 h85
        have e84 : x84 = .slice (some ⟨gC, oC, none⟩) N cc := h84
        clear h84
        subst e84
        have e85 : x85 = .int .i64 (jn : Int) := h85
        clear h85
        subst e85
        refine ask_do rfl fun K hK => ?_
        go_simp
        exact hK _ _ rfl rfl (World.grownBy.refl _ none)
      -- op 12 (slot 87): load
      refine MonoR.step (Pv.eq (.slice Bj mj dj)) [(11, 86)] (by kernel_rfl) (fun w' hw' => ?_) ?_
      · intro x86 h86
        have e86 : x86 = .pointer (some ⟨gC, oC + jn, none⟩) := h86
        clear h86
        subst e86
        refine ask_do rfl fun K hK => ?_
        have qq := HLI.out w' hw'
        have q0 := qq.1
        have q1 := qq.2.1
        have q2 := qq.2.2.1
        have q3 := qq.2.2.2.1
        have q4 := qq.2.2.2.2.1
        have q5 := qq.2.2.2.2.2
        clear qq
        go_simp
        exact hK _ _ rfl rfl (World.grownBy.refl _ none)
      -- op 13 (slot 88): call
      refine MonoR.step (Pv.sl (encU) TT PK) [(2, 77), (7, 82), (12, 87)] (by kernel_rfl) (fun w' hw' => ?_) ?_
      · intro x77 h77
        intro x82 h82
        intro x87 h87
        have e77 : x77 = .slice Am nm cm := h77
        clear h77
        subst e77
        have e82 : x82 = .slice Aj nj cj := h82
        clear h82
        subst e82
        have e87 : x87 = .slice Bj mj dj := h87
        clear h87
        subst e87
        refine ask_do rfl fun K hK => ?_
        go_simp
        refine (HPK.out w' hw').mono ?_
        rintro e w3 ⟨v3, rfl, hs3, hg3⟩
        exact hK _ _ rfl (hs3.more fun _ _ _ => trivial) hg3
      -- op 14 (slot 89): fieldAddr
      refine MonoR.step (Pv.eq (.pointer (some ⟨w.heap.size, 6, none⟩))) [] (by kernel_rfl) (fun w' hw' => ?_) ?_
      · refine ask_do rfl fun K hK => ?_
        go_simp
        exact hK _ _ rfl rfl (World.grownBy.refl _ none)
      -- op 15 (slot 90): load
      refine MonoR.step (Pv.eq (.int .i64 p.T)) [(14, 89)] (by kernel_rfl) (fun w' hw' => ?_) ?_
      · intro x89 h89
        have e89 : x89 = .pointer (some ⟨w.heap.size, 6, none⟩) := h89
        clear h89
        subst e89
        refine ask_do rfl fun K hK => ?_
        have qq := HLI.out w' hw'
        have q0 := qq.1
        have q1 := qq.2.1
        have q2 := qq.2.2.1
        have q3 := qq.2.2.2.1
        have q4 := qq.2.2.2.2.1
        have q5 := qq.2.2.2.2.2
        clear qq
        go_simp
        exact hK _ _ rfl rfl (World.grownBy.refl _ none)
      -- op 16 (slot 91): binOp
      refine MonoR.step (Pv.eq (.int .i64 (t : Int))) [(15, 90)] (by kernel_rfl) (fun w' hw' => ?_) ?_
      · intro x90 h90
        have e90 : x90 = .int .i64 p.T := h90
        clear h90
        subst e90
        refine ask_do rfl fun K hK => ?_
        go_simp
        exact hK _ _ rfl rfl (World.grownBy.refl _ none)
      -- op 17 (slot 92): call
      refine MonoR.step (opPv 0 M RW CW) [(0, 75), (13, 88), (16, 91)] (by kernel_rfl) (fun w' hw' => ?_) ?_
      · intro x75 h75
        intro x88 h88
        have h88 : Sl (encU) TT w' x88 PK := h88
        intro x91 h91
        have e75 : x75 = p.v := h75
        clear h75
        subst e75
        have e91 : x91 = .int .i64 (t : Int) := h91
        clear h91
        subst e91
        refine ask_do rfl fun K hK => ?_
        go_simp
        refine (HOP.out x88 w' h88).mono ?_
        rintro e w3 ⟨vm, va, vb, rfl, q1, q2, q3, q4⟩
        exact hK _ _ rfl ⟨vm, va, vb, rfl, q1, q2, q3⟩ q4
      -- op 18 (slot 74): move
      refine MonoR.step (opPv 0 M RW CW) [(17, 92)] (by kernel_rfl) (fun w' hw' => ?_) ?_
      · intro x92 h92
        have h92 : ∃ a b c, x92 = .tuple #[a, b, c, .int .i64 0] ∧ Sl (encS (encS encU)) TT w' a M ∧ Sl (encS encP) TT w' b RW ∧ Sl (encS encP) TT w' c CW := h92
        obtain ⟨a92, b92, c92, e92, ka92, kb92, kc92⟩ := h92
        subst e92
        refine ask_do rfl fun K hK => ?_
        go_simp
        exact hK _ _ rfl ⟨a92, b92, c92, rfl, ka92, kb92, kc92⟩ (World.grownBy.refl _ none)
      -- op 19 (slot 93): extract
      refine MonoR.step (Pv.sl (encS (encS encU)) TT M) [(18, 74)] (by kernel_rfl) (fun w' hw' => ?_) ?_
      · intro x74 h74
        have h74 : ∃ a b c, x74 = .tuple #[a, b, c, .int .i64 0] ∧ Sl (encS (encS encU)) TT w' a M ∧ Sl (encS encP) TT w' b RW ∧ Sl (encS encP) TT w' c CW := h74
        obtain ⟨a74, b74, c74, e74, ka74, kb74, kc74⟩ := h74
        subst e74
        refine ask_do rfl fun K hK => ?_
        go_simp
        exact hK _ _ rfl ka74 (World.grownBy.refl _ none)
      -- op 20 (slot 94): extract
      refine MonoR.step (Pv.sl (encS encP) TT RW) [(18, 74)] (by kernel_rfl) (fun w' hw' => ?_) ?_
      · intro x74 h74
        have h74 : ∃ a b c, x74 = .tuple #[a, b, c, .int .i64 0] ∧ Sl (encS (encS encU)) TT w' a M ∧ Sl (encS encP) TT w' b RW ∧ Sl (encS encP) TT w' c CW := h74
        obtain ⟨a74, b74, c74, e74, ka74, kb74, kc74⟩ := h74
        subst e74
        refine ask_do rfl fun K hK => ?_
        go_simp
        exact hK _ _ rfl kb74 (World.grownBy.refl _ none)
      -- op 21 (slot 95): extract
      refine MonoR.step (Pv.sl (encS encP) TT CW) [(18, 74)] (by kernel_rfl) (fun w' hw' => ?_) ?_
      · intro x74 h74
        have h74 : ∃ a b c, x74 = .tuple #[a, b, c, .int .i64 0] ∧ Sl (encS (encS encU)) TT w' a M ∧ Sl (encS encP) TT w' b RW ∧ Sl (encS encP) TT w' c CW := h74
        obtain ⟨a74, b74, c74, e74, ka74, kb74, kc74⟩ := h74
        subst e74
        refine ask_do rfl fun K hK => ?_
        go_simp
        exact hK _ _ rfl kc74 (World.grownBy.refl _ none)
      -- op 22 (slot 96): extract
      refine MonoR.step (Pv.eq (.int .i64 0)) [(18, 74)] (by kernel_rfl) (fun w' hw' => ?_) ?_
      · intro x74 h74
        have h74 : ∃ a b c, x74 = .tuple #[a, b, c, .int .i64 0] ∧ Sl (encS (encS encU)) TT w' a M ∧ Sl (encS encP) TT w' b RW ∧ Sl (encS encP) TT w' c CW := h74
        obtain ⟨a74, b74, c74, e74, ka74, kb74, kc74⟩ := h74
        subst e74
        refine ask_do rfl fun K hK => ?_
        go_simp
        exact hK _ _ rfl rfl (World.grownBy.refl _ none)
      -- op 23 (slot 17): assign
      refine MonoR.step (Pv.sl (encS (encS encU)) TT M) [(19, 93)] (by kernel_rfl) (fun w' hw' => ?_) ?_
      · intro x93 h93
        have h93 : Sl (encS (encS encU)) TT w' x93 M := h93
        refine ask_do rfl fun K hK => ?_
        go_simp
        exact hK _ _ rfl h93 (World.grownBy.refl _ none)
      -- op 24 (slot 18): assign
      refine MonoR.step (Pv.sl (encS encP) TT RW) [(20, 94)] (by kernel_rfl) (fun w' hw' => ?_) ?_
      · intro x94 h94
        have h94 : Sl (encS encP) TT w' x94 RW := h94
        refine ask_do rfl fun K hK => ?_
        go_simp
        exact hK _ _ rfl h94 (World.grownBy.refl _ none)
      -- op 25 (slot 19): assign
      refine MonoR.step (Pv.sl (encS encP) TT CW) [(21, 95)] (by kernel_rfl) (fun w' hw' => ?_) ?_
      · intro x95 h95
        have h95 : Sl (encS encP) TT w' x95 CW := h95
        refine ask_do rfl fun K hK => ?_
        go_simp
        exact hK _ _ rfl h95 (World.grownBy.refl _ none)
      -- op 26 (slot 20): assign
      refine MonoR.step (Pv.eq (.int .i64 0)) [(22, 96)] (by kernel_rfl) (fun w' hw' => ?_) ?_
      · intro x96 h96
        have e96 : x96 = .int .i64 0 := h96
        clear h96
        subst e96
        refine ask_do rfl fun K hK => ?_
        go_simp
        exact hK _ _ rfl rfl (World.grownBy.refl _ none)
      
      intro w5 hw5
      intro y0 k0 y1 k1 y2 k2 y3 k3 y4 k4 y5 k5 y6 k6 y7 k7 y8 k8 y9 k9 y10 k10 y11 k11 y12 k12 y13 k13 y14 k14 y15 k15 y16 k16 y17 k17 y18 k18 y19 k19 y20 k20 y21 k21 y22 k22 y23 k23 y24 k24 y25 k25 y26 k26
      refine wpList_nil ?_
      simp only [Act.put, List.setIfInBounds_toArray, List.set_cons_zero, List.set_cons_succ]
      have k23 : Sl (encS (encS encU)) TT w5 y23 M := k23
      have k24 : Sl (encS encP) TT w5 y24 RW := k24
      have k25 : Sl (encS encP) TT w5 y25 CW := k25
      have e26 : y26 = .int .i64 0 := k26
      subst e26
      obtain ⟨A17, n17, c17, rfl⟩ := k23.shape
      obtain ⟨A18, n18, c18, rfl⟩ := k24.shape
      obtain ⟨A19, n19, c19, rfl⟩ := k25.shape
      have HO1 := Lib.hid k23
      have HO2 := Lib.hid k24
      have HO3 := Lib.hid k25
      have HG5 : Hid (w4.grownBy w5 none) := Lib.hid (HD.out.trans hw5)
      have qq := HCELL.out w5 HG5.out
      have q0 := qq.1
      have q1 := qq.2.1
      have q2 := qq.2.2.1
      have q3 := qq.2.2.2.1
      have q4 := qq.2.2.2.2.1
      have q5 := qq.2.2.2.2.2
      clear k0 k1 k2 k3 k4 k5 k6 k7 k8 k9 k10 k11 k12 k13 k14 k15 k16 k17 k18 k19 k20 k21 k22 k23 k24 k25 k26 hw5 HLI HPK HOP HD qq HOP1
      go_wp2_with fail
      refine (mats_eq _ _ M TT TT w5 HO1.out (HD4.out.1.kept HG5.out)).mono ?_
      rintro e w6 ⟨rfl, m6, hm6⟩
      have HM6 : Hid (w5.grownBy w6 none) := Lib.hid (by rw [hm6]; exact grown_drewN' _ m6)
      have HG6 : Hid (w4.grownBy w6 none) := Lib.hid (HG5.out.trans HM6.out)
      clear hm6 q0 q1 q2 q3 q4 q5
      have qq := HCELL.out w6 HG6.out
      have q0 := qq.1
      have q1 := qq.2.1
      have q2 := qq.2.2.1
      have q3 := qq.2.2.2.1
      have q4 := qq.2.2.2.2.1
      have q5 := qq.2.2.2.2.2
      clear qq
      go_wp2_with fail
      refine (shares_eq _ _ RW TT TT w6 (HO2.out.kept HM6.out) (HSR.out.kept HG6.out)).mono ?_
      rintro e w7 ⟨rfl, m7, hm7⟩
      have HM7 : Hid (w6.grownBy w7 none) := Lib.hid (by rw [hm7]; exact grown_drewN' _ m7)
      have HG7 : Hid (w4.grownBy w7 none) := Lib.hid (HG6.out.trans HM7.out)
      clear hm7 q0 q1 q2 q3 q4 q5
      have qq := HCELL.out w7 HG7.out
      have q0 := qq.1
      have q1 := qq.2.1
      have q2 := qq.2.2.1
      have q3 := qq.2.2.2.1
      have q4 := qq.2.2.2.2.1
      have q5 := qq.2.2.2.2.2
      clear qq
      go_wp2_with fail
      refine (shares_eq _ _ CW TT TT w7 (HO3.out.kept (HM6.out.trans HM7.out)) (HSC.out.kept HG7.out)).mono ?_
      rintro e w8 ⟨rfl, m8, hm8⟩
      have HM8 : Hid (w7.grownBy w8 none) := Lib.hid (by rw [hm8]; exact grown_drewN' _ m8)
      have HG8 : Hid (w4.grownBy w8 none) := Lib.hid (HG7.out.trans HM8.out)
      clear hm8 q0 q1 q2 q3 q4 q5
      have qq := HCELL.out w8 HG8.out
      have q0 := qq.1
      clear qq HO1 HO2 HO3 HM6 HM7 HM8 HG5 HG6 HG7
      go_upto_region 13 with (fail)
      have HD : Hid (w8.grownBy w8.drew none) := Lib.hid (grown_drewN' _ 1)
      have HLI : Hid (∀ W, w8.drew.grownBy W none → (∀ o, W.cell? ⟨w.heap.size, o, none⟩ = (#[.int .u64 p.P, .int .u64 p.Q, .int .u64 p.G, .int .u64 p.H, .int .i64 p.Nodes, .int .i64 p.N, .int .i64 p.T, .int .i64 p.K, .int .i64 p.D, .int .i64 p.R, .int .i64 p.M, .int .i64 p.X] : Array Value)[o]?) ∧ W.cell? ⟨g13, 0, none⟩ = some (.slice Am nm cm) ∧ W.cell? ⟨g13, 1, none⟩ = some (.slice (some ⟨gR, oR, none⟩) N cr) ∧ W.cell? ⟨g13, 2, none⟩ = some (.slice (some ⟨gC, oC, none⟩) N cc) ∧ W.cell? ⟨gR, oR + jn, none⟩ = some (.slice Aj nj cj) ∧ W.cell? ⟨gC, oC + jn, none⟩ = some (.slice Bj mj dj)) := Lib.hid (fun W hg => HCELL.out W ((HG8.out.trans HD.out).trans hg))
      have HAT : Hid (∀ W, w8.drew.grownBy W none → Calls Tryz.prog 12 #[.slice Aj nj cj, .int .u64 (1 + s), .int .u64 p.Q] W (Gives encP (fun g => W.heap.size ≤ g) W PT)) := Lib.hid (fun W hg => HATR.out W ((HG8.out.trans HD.out).trans hg))
      refine wp_region_mono 11 (by kernel_rfl) (by kernel_rfl) ?_
      -- op 0 (slot 133): fieldAddr
      refine MonoR.step (Pv.eq (.pointer (some ⟨g13, 1, none⟩))) [] (by kernel_rfl) (fun w' hw' => ?_) ?_
      · refine ask_do rfl fun K hK => ?_
        go_simp
        exact hK _ _ rfl rfl (World.grownBy.refl _ none)
      -- op 1 (slot 134): load
      refine MonoR.step (Pv.eq (.slice (some ⟨gR, oR, none⟩) N cr)) [(0, 133)] (by kernel_rfl) (fun w' hw' => ?_) ?_
      · intro x133 h133
        have e133 : x133 = .pointer (some ⟨g13, 1, none⟩) := h133
        clear h133
        subst e133
        refine ask_do rfl fun K hK => ?_
        have qq := HLI.out w' hw'
        have q0 := qq.1
        have q1 := qq.2.1
        have q2 := qq.2.2.1
        have q3 := qq.2.2.2.1
        have q4 := qq.2.2.2.2.1
        have q5 := qq.2.2.2.2.2
        clear qq
        go_simp
        exact hK _ _ rfl rfl (World.grownBy.refl _ none)
      -- op 2 (slot 135): move
      refine MonoR.step (Pv.eq (.int .i64 (jn : Int))) [] (by kernel_rfl) (fun w' hw' => ?_) ?_
      · refine ask_do rfl fun K hK => ?_
        go_simp
        exact hK _ _ rfl rfl (World.grownBy.refl _ none)
      -- op 3 (slot 136): indexAddr
      refine MonoR.step (Pv.eq (.pointer (some ⟨gR, oR + jn, none⟩))) [(1, 134), (2, 135)] (by kernel_rfl) (fun w' hw' => ?_) ?_
      · intro x134 h134
        intro x135 h135
        have e134 : x134 = .slice (some ⟨gR, oR, none⟩) N cr := h134
        clear h134
        subst e134
        have e135 : x135 = .int .i64 (jn : Int) := h135
        clear h135
        subst e135
        refine ask_do rfl fun K hK => ?_
        go_simp
        exact hK _ _ rfl rfl (World.grownBy.refl _ none)
      -- op 4 (slot 137): load
      refine MonoR.step (Pv.eq (.slice Aj nj cj)) [(3, 136)] (by kernel_rfl) (fun w' hw' => ?_) ?_
      · intro x136 h136
        have e136 : x136 = .pointer (some ⟨gR, oR + jn, none⟩) := h136
        clear h136
        subst e136
        refine ask_do rfl fun K hK => ?_
        have qq := HLI.out w' hw'
        have q0 := qq.1
        have q1 := qq.2.1
        have q2 := qq.2.2.1
        have q3 := qq.2.2.2.1
        have q4 := qq.2.2.2.2.1
        have q5 := qq.2.2.2.2.2
        clear qq
        go_simp
        exact hK _ _ rfl rfl (World.grownBy.refl _ none)
      -- op 5 (slot 138): move
      refine MonoR.step (Pv.eq (.int .u64 (1 + s))) [] (by kernel_rfl) (fun w' hw' => ?_) ?_
      · refine ask_do rfl fun K hK => ?_
        go_simp
        exact hK _ _ rfl rfl (World.grownBy.refl _ none)
      -- op 6 (slot 139): fieldAddr
      refine MonoR.step (Pv.eq (.pointer (some ⟨w.heap.size, 1, none⟩))) [] (by kernel_rfl) (fun w' hw' => ?_) ?_
      · refine ask_do rfl fun K hK => ?_
        go_simp
        exact hK _ _ rfl rfl (World.grownBy.refl _ none)
      -- op 7 (slot 140): load
      refine MonoR.step (Pv.eq (.int .u64 p.Q)) [(6, 139)] (by kernel_rfl) (fun w' hw' => ?_) ?_
      · intro x139 h139
        have e139 : x139 = .pointer (some ⟨w.heap.size, 1, none⟩) := h139
        clear h139
        subst e139
        refine ask_do rfl fun K hK => ?_
        have qq := HLI.out w' hw'
        have q0 := qq.1
        have q1 := qq.2.1
        have q2 := qq.2.2.1
        have q3 := qq.2.2.2.1
        have q4 := qq.2.2.2.2.1
        have q5 := qq.2.2.2.2.2
        clear qq
        go_simp
        exact hK _ _ rfl rfl (World.grownBy.refl _ none)
      -- op 8 (slot 141): call
      refine MonoR.step (Pv.sl (encP) TT PT) [(4, 137), (5, 138), (7, 140)] (by kernel_rfl) (fun w' hw' => ?_) ?_
      · intro x137 h137
        intro x138 h138
        intro x140 h140
        have e137 : x137 = .slice Aj nj cj := h137
        clear h137
        subst e137
        have e138 : x138 = .int .u64 (1 + s) := h138
        clear h138
        subst e138
        have e140 : x140 = .int .u64 p.Q := h140
        clear h140
        subst e140
        refine ask_do rfl fun K hK => ?_
        go_simp
        refine (HAT.out w' hw').mono ?_
        rintro e w3 ⟨v3, rfl, hs3, hg3⟩
        exact hK _ _ rfl (hs3.more fun _ _ _ => trivial) hg3
      -- op 9 (slot 142): call
      refine MonoR.step (Pv.eq (.int .i64 (PT.length : Int))) [(8, 141)] (by kernel_rfl) (fun w' hw' => ?_) ?_
      · intro x141 h141
        have h141 : Sl (encP) TT w' x141 PT := h141
        obtain ⟨A141, c141, e141, k141, l141⟩ := h141.form
        have e141 : x141 = .slice A141 PT.length c141 := e141
        subst e141
        refine ask_do rfl fun K hK => ?_
        go_simp
        exact hK _ _ rfl rfl (World.grownBy.refl _ none)
      -- op 10 (slot 143): move
      refine MonoR.step (Pv.eq (.int .i64 0)) [] (by kernel_rfl) (fun w' hw' => ?_) ?_
      · refine ask_do rfl fun K hK => ?_
        go_simp
        exact hK _ _ rfl rfl (World.grownBy.refl _ none)
      
      intro wua hwa
      intro y0 k0 y1 k1 y2 k2 y3 k3 y4 k4 y5 k5 y6 k6 y7 k7 y8 k8 y9 k9 y10 k10
      refine wpList_nil ?_
      simp only [Act.put, List.setIfInBounds_toArray, List.set_cons_zero, List.set_cons_succ]
      have k8 : Sl encP TT wua y8 PT := k8
      obtain ⟨A141, c141, e8, _, _⟩ := k8.form
      subst e8
      have e9 : y9 = .int .i64 (PT.length : Int) := k9
      have e10 : y10 = .int .i64 0 := k10
      subst e9 e10
      have HPT := Lib.hid k8
      have HGa : Hid (w4.grownBy wua none) := Lib.hid ((HG8.out.trans HD.out).trans hwa)
      obtain ⟨np, hnp⟩ : ∃ y, y = PT.length := ⟨_, rfl⟩
      have HNP : Hid (np = PT.length ∧ np ≤ 10) := Lib.hid ⟨hnp, by rw [hnp]; exact HPL.out.1⟩
      rw [← hnp]
      rw [← hnp] at HPT
      clear k0 k1 k2 k3 k4 k5 k6 k7 k8 k9 k10 hwa HLI HAT HD hnp
      go_wp2_with fail
      go_loopg [22, 25, 143] np (fun gk s22 s25 s143 wx => ∃ j : Nat, j + gk = np ∧ s143 = .int .i64 (j : Int) ∧ Hid (Acc (encS encP) wua.heap.size 33 TT wx s22 ((PT.take j).map fun z => [z]) ∧ wua.grownBy wx none))
      case atStart => exact ⟨0, by omega, rfl, Lib.hid ⟨Acc.nil _ _ _ _ _, World.grownBy.refl _ none⟩⟩
      case round =>
        rename World => wur
        obtain ⟨j, hj, rfl, HX⟩ := hrel
        have HAC := Lib.hid HX.out.1
        have HGX := Lib.hid HX.out.2
        clear HX
        obtain ⟨A22, n22, c22, rfl⟩ := HAC.out.sl.shape
        cases gk with
        | zero =>
          have hjz : j = np := by omega
          have HX22 : Hid (Sl (encS encP) TT wur (.slice A22 n22 c22) XA) := Lib.hid (by
            have := HAC.out.sl
            rw [hjz, HNP.out.1, List.take_length] at this
            rw [HPKE.out.2.2.1]
            exact this)
          have HGwu : Hid (w4.grownBy wur none) := Lib.hid (HGa.out.trans HGX.out)
          have hno : ¬ ((j : Int) < (np : Int)) := by omega
          clear HAC HGX HPT HGa hjz HNP
          go_wp2_with fail
          go_upto_region 18 with (fail)
          have HD : Hid (wur.grownBy wur.drew none) := Lib.hid (grown_drewN' _ 1)
          have HLI : Hid (∀ W, wur.drew.grownBy W none → (∀ o, W.cell? ⟨w.heap.size, o, none⟩ = (#[.int .u64 p.P, .int .u64 p.Q, .int .u64 p.G, .int .u64 p.H, .int .i64 p.Nodes, .int .i64 p.N, .int .i64 p.T, .int .i64 p.K, .int .i64 p.D, .int .i64 p.R, .int .i64 p.M, .int .i64 p.X] : Array Value)[o]?) ∧ W.cell? ⟨g13, 0, none⟩ = some (.slice Am nm cm) ∧ W.cell? ⟨g13, 1, none⟩ = some (.slice (some ⟨gR, oR, none⟩) N cr) ∧ W.cell? ⟨g13, 2, none⟩ = some (.slice (some ⟨gC, oC, none⟩) N cc) ∧ W.cell? ⟨gR, oR + jn, none⟩ = some (.slice Aj nj cj) ∧ W.cell? ⟨gC, oC + jn, none⟩ = some (.slice Bj mj dj)) := Lib.hid (fun W hg => HCELL.out W ((HGwu.out.trans HD.out).trans hg))
          have HAT : Hid (∀ W, wur.drew.grownBy W none → Calls Tryz.prog 12 #[.slice Bj mj dj, .int .u64 (1 + s), .int .u64 p.Q] W (Gives encP (fun g => W.heap.size ≤ g) W PS)) := Lib.hid (fun W hg => HATC.out W ((HGwu.out.trans HD.out).trans hg))
          refine wp_region_mono 11 (by kernel_rfl) (by kernel_rfl) ?_
          -- op 0 (slot 153): fieldAddr
          refine MonoR.step (Pv.eq (.pointer (some ⟨g13, 2, none⟩))) [] (by kernel_rfl) (fun w' hw' => ?_) ?_
          · refine ask_do rfl fun K hK => ?_
            go_simp
            exact hK _ _ rfl rfl (World.grownBy.refl _ none)
          -- op 1 (slot 154): load
          refine MonoR.step (Pv.eq (.slice (some ⟨gC, oC, none⟩) N cc)) [(0, 153)] (by kernel_rfl) (fun w' hw' => ?_) ?_
          · intro x153 h153
            have e153 : x153 = .pointer (some ⟨g13, 2, none⟩) := h153
            clear h153
            subst e153
            refine ask_do rfl fun K hK => ?_
            have qq := HLI.out w' hw'
            have q0 := qq.1
            have q1 := qq.2.1
            have q2 := qq.2.2.1
            have q3 := qq.2.2.2.1
            have q4 := qq.2.2.2.2.1
            have q5 := qq.2.2.2.2.2
            clear qq
            go_simp
            exact hK _ _ rfl rfl (World.grownBy.refl _ none)
          -- op 2 (slot 155): move
          refine MonoR.step (Pv.eq (.int .i64 (jn : Int))) [] (by kernel_rfl) (fun w' hw' => ?_) ?_
          · refine ask_do rfl fun K hK => ?_
            go_simp
            exact hK _ _ rfl rfl (World.grownBy.refl _ none)
          -- op 3 (slot 156): indexAddr
          refine MonoR.step (Pv.eq (.pointer (some ⟨gC, oC + jn, none⟩))) [(1, 154), (2, 155)] (by kernel_rfl) (fun w' hw' => ?_) ?_
          · intro x154 h154
            intro x155 h155
            have e154 : x154 = .slice (some ⟨gC, oC, none⟩) N cc := h154
            clear h154
            subst e154
            have e155 : x155 = .int .i64 (jn : Int) := h155
            clear h155
            subst e155
            refine ask_do rfl fun K hK => ?_
            go_simp
            exact hK _ _ rfl rfl (World.grownBy.refl _ none)
          -- op 4 (slot 157): load
          refine MonoR.step (Pv.eq (.slice Bj mj dj)) [(3, 156)] (by kernel_rfl) (fun w' hw' => ?_) ?_
          · intro x156 h156
            have e156 : x156 = .pointer (some ⟨gC, oC + jn, none⟩) := h156
            clear h156
            subst e156
            refine ask_do rfl fun K hK => ?_
            have qq := HLI.out w' hw'
            have q0 := qq.1
            have q1 := qq.2.1
            have q2 := qq.2.2.1
            have q3 := qq.2.2.2.1
            have q4 := qq.2.2.2.2.1
            have q5 := qq.2.2.2.2.2
            clear qq
            go_simp
            exact hK _ _ rfl rfl (World.grownBy.refl _ none)
          -- op 5 (slot 158): move
          refine MonoR.step (Pv.eq (.int .u64 (1 + s))) [] (by kernel_rfl) (fun w' hw' => ?_) ?_
          · refine ask_do rfl fun K hK => ?_
            go_simp
            exact hK _ _ rfl rfl (World.grownBy.refl _ none)
          -- op 6 (slot 159): fieldAddr
          refine MonoR.step (Pv.eq (.pointer (some ⟨w.heap.size, 1, none⟩))) [] (by kernel_rfl) (fun w' hw' => ?_) ?_
          · refine ask_do rfl fun K hK => ?_
            go_simp
            exact hK _ _ rfl rfl (World.grownBy.refl _ none)
          -- op 7 (slot 160): load
          refine MonoR.step (Pv.eq (.int .u64 p.Q)) [(6, 159)] (by kernel_rfl) (fun w' hw' => ?_) ?_
          · intro x159 h159
            have e159 : x159 = .pointer (some ⟨w.heap.size, 1, none⟩) := h159
            clear h159
            subst e159
            refine ask_do rfl fun K hK => ?_
            have qq := HLI.out w' hw'
            have q0 := qq.1
            have q1 := qq.2.1
            have q2 := qq.2.2.1
            have q3 := qq.2.2.2.1
            have q4 := qq.2.2.2.2.1
            have q5 := qq.2.2.2.2.2
            clear qq
            go_simp
            exact hK _ _ rfl rfl (World.grownBy.refl _ none)
          -- op 8 (slot 161): call
          refine MonoR.step (Pv.sl (encP) TT PS) [(4, 157), (5, 158), (7, 160)] (by kernel_rfl) (fun w' hw' => ?_) ?_
          · intro x157 h157
            intro x158 h158
            intro x160 h160
            have e157 : x157 = .slice Bj mj dj := h157
            clear h157
            subst e157
            have e158 : x158 = .int .u64 (1 + s) := h158
            clear h158
            subst e158
            have e160 : x160 = .int .u64 p.Q := h160
            clear h160
            subst e160
            refine ask_do rfl fun K hK => ?_
            go_simp
            refine (HAT.out w' hw').mono ?_
            rintro e w3 ⟨v3, rfl, hs3, hg3⟩
            exact hK _ _ rfl (hs3.more fun _ _ _ => trivial) hg3
          -- op 9 (slot 162): call
          refine MonoR.step (Pv.eq (.int .i64 (PS.length : Int))) [(8, 161)] (by kernel_rfl) (fun w' hw' => ?_) ?_
          · intro x161 h161
            have h161 : Sl (encP) TT w' x161 PS := h161
            obtain ⟨A161, c161, e161, k161, l161⟩ := h161.form
            have e161 : x161 = .slice A161 PS.length c161 := e161
            subst e161
            refine ask_do rfl fun K hK => ?_
            go_simp
            exact hK _ _ rfl rfl (World.grownBy.refl _ none)
          -- op 10 (slot 163): move
          refine MonoR.step (Pv.eq (.int .i64 0)) [] (by kernel_rfl) (fun w' hw' => ?_) ?_
          · refine ask_do rfl fun K hK => ?_
            go_simp
            exact hK _ _ rfl rfl (World.grownBy.refl _ none)
          
          intro wva hwa
          intro y0 k0 y1 k1 y2 k2 y3 k3 y4 k4 y5 k5 y6 k6 y7 k7 y8 k8 y9 k9 y10 k10
          refine wpList_nil ?_
          simp only [Act.put, List.setIfInBounds_toArray, List.set_cons_zero, List.set_cons_succ]
          have k8 : Sl encP TT wva y8 PS := k8
          obtain ⟨A161, c161, e8, _, _⟩ := k8.form
          subst e8
          have e9 : y9 = .int .i64 (PS.length : Int) := k9
          have e10 : y10 = .int .i64 0 := k10
          subst e9 e10
          have HPS := Lib.hid k8
          have HGa : Hid (w4.grownBy wva none) := Lib.hid ((HGwu.out.trans HD.out).trans hwa)
          obtain ⟨np, hnp⟩ : ∃ y, y = PS.length := ⟨_, rfl⟩
          have HNP : Hid (np = PS.length ∧ np ≤ 10) := Lib.hid ⟨hnp, by rw [hnp]; exact HPL.out.2⟩
          rw [← hnp]
          rw [← hnp] at HPS
          have HUa : Hid (wur.grownBy wva none) := Lib.hid (HD.out.trans hwa)
          clear k0 k1 k2 k3 k4 k5 k6 k7 k8 k9 k10 hwa HLI HAT HD hnp
          go_wp2_with fail
          go_loopg [23, 27, 163] np (fun gk s23 s27 s163 wx => ∃ j : Nat, j + gk = np ∧ s163 = .int .i64 (j : Int) ∧ Hid (Acc (encS encP) wva.heap.size 33 TT wx s23 ((PS.take j).map fun z => [z]) ∧ wva.grownBy wx none))
          case atStart => exact ⟨0, by omega, rfl, Lib.hid ⟨Acc.nil _ _ _ _ _, World.grownBy.refl _ none⟩⟩
          case round =>
            rename World => wvr
            obtain ⟨j, hj, rfl, HX⟩ := hrel
            have HAC := Lib.hid HX.out.1
            have HGX := Lib.hid HX.out.2
            clear HX
            obtain ⟨A23, n23, c23, rfl⟩ := HAC.out.sl.shape
            cases gk with
            | zero =>
              have hjz : j = np := by omega
              have HX23 : Hid (Sl (encS encP) TT wvr (.slice A23 n23 c23) XB) := Lib.hid (by
                have := HAC.out.sl
                rw [hjz, HNP.out.1, List.take_length] at this
                rw [HPKE.out.2.2.2.1]
                exact this)
              have HGwv : Hid (w4.grownBy wvr none) := Lib.hid (HGa.out.trans HGX.out)
              have hno : ¬ ((j : Int) < (np : Int)) := by omega
              have HUV : Hid (wur.grownBy wvr none) := Lib.hid (HUa.out.trans HGX.out)
              clear HAC HGX HPS HGa hjz HNP HUa
              go_wp2_with fail
              go_upto_region 23 with (fail)
              have HD : Hid (wvr.grownBy wvr.drew none) := Lib.hid (grown_drewN' _ 1)
              have HV2 : Hid (wur.grownBy wvr.drew none) := Lib.hid (HUV.out.trans HD.out)
              have HLI : Hid (∀ W, wvr.drew.grownBy W none → (∀ o, W.cell? ⟨w.heap.size, o, none⟩ = (#[.int .u64 p.P, .int .u64 p.Q, .int .u64 p.G, .int .u64 p.H, .int .i64 p.Nodes, .int .i64 p.N, .int .i64 p.T, .int .i64 p.K, .int .i64 p.D, .int .i64 p.R, .int .i64 p.M, .int .i64 p.X] : Array Value)[o]?) ∧ W.cell? ⟨g13, 0, none⟩ = some (.slice Am nm cm) ∧ W.cell? ⟨g13, 1, none⟩ = some (.slice (some ⟨gR, oR, none⟩) N cr) ∧ W.cell? ⟨g13, 2, none⟩ = some (.slice (some ⟨gC, oC, none⟩) N cc) ∧ W.cell? ⟨gR, oR + jn, none⟩ = some (.slice Aj nj cj) ∧ W.cell? ⟨gC, oC + jn, none⟩ = some (.slice Bj mj dj)) := Lib.hid (fun W hg => HCELL.out W ((HGwv.out.trans HD.out).trans hg))
              have HPK : Hid (∀ W, wvr.drew.grownBy W none → Calls Tryz.prog 21 #[.slice Am nm cm, .slice A22 n22 c22, .slice A23 n23 c23] W (Gives encU (fun g => W.heap.size ≤ g) W PK2)) := Lib.hid (fun W hg => by
                rw [HPKE.out.2.1]
                exact dpack_any _ _ _ M XA XB TT TT TT W (HD4.out.1.kept ((HGwv.out.trans HD.out).trans hg)) (HX22.out.kept (HV2.out.trans hg)) (HX23.out.kept (HD.out.trans hg)) HM1.out HL1.out.2.2.1 HL1.out.2.2.2)
              have HOP := HOP2
              refine wp_region_mono 16 (by kernel_rfl) (by kernel_rfl) ?_
              -- op 0 (slot 174): load
              refine MonoR.step (Pv.eq (p.v)) [] (by kernel_rfl) (fun w' hw' => ?_) ?_
              · refine ask_do rfl fun K hK => ?_
                have qq := HLI.out w' hw'
                have q0 := qq.1
                have q1 := qq.2.1
                have q2 := qq.2.2.1
                have q3 := qq.2.2.2.1
                have q4 := qq.2.2.2.2.1
                have q5 := qq.2.2.2.2.2
                clear qq
                go_simp
                exact hK _ _ rfl rfl (World.grownBy.refl _ none)
              -- op 1 (slot 175): fieldAddr
              refine MonoR.step (Pv.eq (.pointer (some ⟨g13, 0, none⟩))) [] (by kernel_rfl) (fun w' hw' => ?_) ?_
              · refine ask_do rfl fun K hK => ?_
                go_simp
                exact hK _ _ rfl rfl (World.grownBy.refl _ none)
              -- op 2 (slot 176): load
              refine MonoR.step (Pv.eq (.slice Am nm cm)) [(1, 175)] (by kernel_rfl) (fun w' hw' => ?_) ?_
              · intro x175 h175
                have e175 : x175 = .pointer (some ⟨g13, 0, none⟩) := h175
                clear h175
                subst e175
                refine ask_do rfl fun K hK => ?_
                have qq := HLI.out w' hw'
                have q0 := qq.1
                have q1 := qq.2.1
                have q2 := qq.2.2.1
                have q3 := qq.2.2.2.1
                have q4 := qq.2.2.2.2.1
                have q5 := qq.2.2.2.2.2
                clear qq
                go_simp
                exact hK _ _ rfl rfl (World.grownBy.refl _ none)
              -- op 3 (slot 177): move
              refine MonoR.step (Pv.eq (.slice A22 n22 c22)) [] (by kernel_rfl) (fun w' hw' => ?_) ?_
              · refine ask_do rfl fun K hK => ?_
                go_simp
                exact hK _ _ rfl rfl (World.grownBy.refl _ none)
              -- op 4 (slot 178): move
              refine MonoR.step (Pv.eq (.slice A23 n23 c23)) [] (by kernel_rfl) (fun w' hw' => ?_) ?_
              · refine ask_do rfl fun K hK => ?_
                go_simp
                exact hK _ _ rfl rfl (World.grownBy.refl _ none)
              -- op 5 (slot 179): call
              refine MonoR.step (Pv.sl (encU) TT PK2) [(2, 176), (3, 177), (4, 178)] (by kernel_rfl) (fun w' hw' => ?_) ?_
              · intro x176 h176
                intro x177 h177
                intro x178 h178
                have e176 : x176 = .slice Am nm cm := h176
                clear h176
                subst e176
                have e177 : x177 = .slice A22 n22 c22 := h177
                clear h177
                subst e177
                have e178 : x178 = .slice A23 n23 c23 := h178
                clear h178
                subst e178
                refine ask_do rfl fun K hK => ?_
                go_simp
                refine (HPK.out w' hw').mono ?_
                rintro e w3 ⟨v3, rfl, hs3, hg3⟩
                exact hK _ _ rfl (hs3.more fun _ _ _ => trivial) hg3
              -- op 6 (slot 180): call
              refine MonoR.step (opPv 0 M XA XB) [(0, 174), (5, 179)] (by kernel_rfl) (fun w' hw' => ?_) ?_
              · intro x174 h174
                intro x179 h179
                have h179 : Sl (encU) TT w' x179 PK2 := h179
                have e174 : x174 = p.v := h174
                clear h174
                subst e174
                refine ask_do rfl fun K hK => ?_
                go_simp
                refine (HOP.out x179 w' h179).mono ?_
                rintro e w3 ⟨vm, va, vb, rfl, q1, q2, q3, q4⟩
                exact hK _ _ rfl ⟨vm, va, vb, rfl, q1, q2, q3⟩ q4
              -- op 7 (slot 173): move
              refine MonoR.step (opPv 0 M XA XB) [(6, 180)] (by kernel_rfl) (fun w' hw' => ?_) ?_
              · intro x180 h180
                have h180 : ∃ a b c, x180 = .tuple #[a, b, c, .int .i64 0] ∧ Sl (encS (encS encU)) TT w' a M ∧ Sl (encS encP) TT w' b XA ∧ Sl (encS encP) TT w' c XB := h180
                obtain ⟨a180, b180, c180, e180, ka180, kb180, kc180⟩ := h180
                subst e180
                refine ask_do rfl fun K hK => ?_
                go_simp
                exact hK _ _ rfl ⟨a180, b180, c180, rfl, ka180, kb180, kc180⟩ (World.grownBy.refl _ none)
              -- op 8 (slot 181): extract
              refine MonoR.step (Pv.sl (encS (encS encU)) TT M) [(7, 173)] (by kernel_rfl) (fun w' hw' => ?_) ?_
              · intro x173 h173
                have h173 : ∃ a b c, x173 = .tuple #[a, b, c, .int .i64 0] ∧ Sl (encS (encS encU)) TT w' a M ∧ Sl (encS encP) TT w' b XA ∧ Sl (encS encP) TT w' c XB := h173
                obtain ⟨a173, b173, c173, e173, ka173, kb173, kc173⟩ := h173
                subst e173
                refine ask_do rfl fun K hK => ?_
                go_simp
                exact hK _ _ rfl ka173 (World.grownBy.refl _ none)
              -- op 9 (slot 182): extract
              refine MonoR.step (Pv.sl (encS encP) TT XA) [(7, 173)] (by kernel_rfl) (fun w' hw' => ?_) ?_
              · intro x173 h173
                have h173 : ∃ a b c, x173 = .tuple #[a, b, c, .int .i64 0] ∧ Sl (encS (encS encU)) TT w' a M ∧ Sl (encS encP) TT w' b XA ∧ Sl (encS encP) TT w' c XB := h173
                obtain ⟨a173, b173, c173, e173, ka173, kb173, kc173⟩ := h173
                subst e173
                refine ask_do rfl fun K hK => ?_
                go_simp
                exact hK _ _ rfl kb173 (World.grownBy.refl _ none)
              -- op 10 (slot 183): extract
              refine MonoR.step (Pv.sl (encS encP) TT XB) [(7, 173)] (by kernel_rfl) (fun w' hw' => ?_) ?_
              · intro x173 h173
                have h173 : ∃ a b c, x173 = .tuple #[a, b, c, .int .i64 0] ∧ Sl (encS (encS encU)) TT w' a M ∧ Sl (encS encP) TT w' b XA ∧ Sl (encS encP) TT w' c XB := h173
                obtain ⟨a173, b173, c173, e173, ka173, kb173, kc173⟩ := h173
                subst e173
                refine ask_do rfl fun K hK => ?_
                go_simp
                exact hK _ _ rfl kc173 (World.grownBy.refl _ none)
              -- op 11 (slot 184): extract
              refine MonoR.step (Pv.eq (.int .i64 0)) [(7, 173)] (by kernel_rfl) (fun w' hw' => ?_) ?_
              · intro x173 h173
                have h173 : ∃ a b c, x173 = .tuple #[a, b, c, .int .i64 0] ∧ Sl (encS (encS encU)) TT w' a M ∧ Sl (encS encP) TT w' b XA ∧ Sl (encS encP) TT w' c XB := h173
                obtain ⟨a173, b173, c173, e173, ka173, kb173, kc173⟩ := h173
                subst e173
                refine ask_do rfl fun K hK => ?_
                go_simp
                exact hK _ _ rfl rfl (World.grownBy.refl _ none)
              -- op 12 (slot 17): assign
              refine MonoR.step (Pv.sl (encS (encS encU)) TT M) [(8, 181)] (by kernel_rfl) (fun w' hw' => ?_) ?_
              · intro x181 h181
                have h181 : Sl (encS (encS encU)) TT w' x181 M := h181
                refine ask_do rfl fun K hK => ?_
                go_simp
                exact hK _ _ rfl h181 (World.grownBy.refl _ none)
              -- op 13 (slot 18): assign
              refine MonoR.step (Pv.sl (encS encP) TT XA) [(9, 182)] (by kernel_rfl) (fun w' hw' => ?_) ?_
              · intro x182 h182
                have h182 : Sl (encS encP) TT w' x182 XA := h182
                refine ask_do rfl fun K hK => ?_
                go_simp
                exact hK _ _ rfl h182 (World.grownBy.refl _ none)
              -- op 14 (slot 19): assign
              refine MonoR.step (Pv.sl (encS encP) TT XB) [(10, 183)] (by kernel_rfl) (fun w' hw' => ?_) ?_
              · intro x183 h183
                have h183 : Sl (encS encP) TT w' x183 XB := h183
                refine ask_do rfl fun K hK => ?_
                go_simp
                exact hK _ _ rfl h183 (World.grownBy.refl _ none)
              -- op 15 (slot 20): assign
              refine MonoR.step (Pv.eq (.int .i64 0)) [(11, 184)] (by kernel_rfl) (fun w' hw' => ?_) ?_
              · intro x184 h184
                have e184 : x184 = .int .i64 0 := h184
                clear h184
                subst e184
                refine ask_do rfl fun K hK => ?_
                go_simp
                exact hK _ _ rfl rfl (World.grownBy.refl _ none)
              
              intro w9 hw9
              intro y0 k0 y1 k1 y2 k2 y3 k3 y4 k4 y5 k5 y6 k6 y7 k7 y8 k8 y9 k9 y10 k10 y11 k11 y12 k12 y13 k13 y14 k14 y15 k15
              refine wpList_nil ?_
              simp only [Act.put, List.setIfInBounds_toArray, List.set_cons_zero, List.set_cons_succ]
              have k12 : Sl (encS (encS encU)) TT w9 y12 M := k12
              have k13 : Sl (encS encP) TT w9 y13 XA := k13
              have k14 : Sl (encS encP) TT w9 y14 XB := k14
              have e15 : y15 = .int .i64 0 := k15
              subst e15
              obtain ⟨B17, n17', c17', rfl⟩ := k12.shape
              obtain ⟨B18, n18', c18', rfl⟩ := k13.shape
              obtain ⟨B19, n19', c19', rfl⟩ := k14.shape
              have HO1 := Lib.hid k12
              have HO2 := Lib.hid k13
              have HO3 := Lib.hid k14
              have HV9 : Hid (wvr.grownBy w9 none) := Lib.hid (HD.out.trans hw9)
              have HU9 : Hid (wur.grownBy w9 none) := Lib.hid (HV2.out.trans hw9)
              have HG9 : Hid (w4.grownBy w9 none) := Lib.hid (HGwv.out.trans HV9.out)
              have qq := HCELL.out w9 HG9.out
              have q0 := qq.1
              have q1 := qq.2.1
              clear k0 k1 k2 k3 k4 k5 k6 k7 k8 k9 k10 k11 k12 k13 k14 k15 hw9 HLI HPK HOP HD qq HOP2 HV2
              go_wp2_with fail
              refine (mats_eq _ _ M TT TT w9 HO1.out (HD4.out.1.kept HG9.out)).mono ?_
              rintro e w10 ⟨rfl, m10, hm10⟩
              have HM10 : Hid (w9.grownBy w10 none) := Lib.hid (by rw [hm10]; exact grown_drewN' _ m10)
              clear hm10 q0 q1
              go_wp2_with fail
              refine (shares_eq _ _ XA TT TT w10 (HO2.out.kept HM10.out) (HX22.out.kept (HU9.out.trans HM10.out))).mono ?_
              rintro e w11 ⟨rfl, m11, hm11⟩
              have HM11 : Hid (w9.grownBy w11 none) := Lib.hid (by rw [hm11]; exact HM10.out.trans (grown_drewN' _ m11))
              clear hm11
              go_wp2_with fail
              refine (shares_eq _ _ XB TT TT w11 (HO3.out.kept HM11.out) (HX23.out.kept (HV9.out.trans HM11.out))).mono ?_
              rintro e w12 ⟨rfl, m12, hm12⟩
              have HG12 : Hid (w4.grownBy w12 none) := Lib.hid (by rw [hm12]; exact (HG9.out.trans HM11.out).trans (grown_drewN' _ m12))
              clear hm12 HO1 HO2 HO3 HM10 HM11 HV9 HU9 HG9
              go_upto_region 26 with (fail)
              have HD12 : Hid (w4.grownBy w12.drew none) := Lib.hid (HG12.out.trans (grown_drewN' _ 1))
              have HLP : Hid (∀ W, w12.drew.grownBy W none → ∀ o, W.cell? ⟨w.heap.size, o, none⟩ = (#[.int .u64 p.P, .int .u64 p.Q, .int .u64 p.G, .int .u64 p.H, .int .i64 p.Nodes, .int .i64 p.N, .int .i64 p.T, .int .i64 p.K, .int .i64 p.D, .int .i64 p.R, .int .i64 p.M, .int .i64 p.X] : Array Value)[o]?) := Lib.hid (fun W hg => (HCELL.out W (HD12.out.trans hg)).1)
              have HPR : Hid (∀ W, w12.drew.grownBy W none → Calls Tryz.prog 25 #[.slice Ax nx cx] W (Gives encU (fun g => W.heap.size ≤ g) W SN)) := Lib.hid (fun W hg => by
                rw [HSXE.out.2.2.2.1]
                exact dpairs_any _ SX TT W (HX4.out.kept (HD12.out.trans hg)) (by have := HSXE.out.1; omega))
              have HOS2 : Hid (∀ v W, w12.drew.grownBy W none → Sl encU TT W v SN → Calls Tryz.prog 24 #[p.v, v] W fun e w' => ∃ u, e = .returned (.tuple #[u, .int .i64 0]) ∧ Sl encP TT w' u SX ∧ W.grownBy w' none) := Lib.hid (fun v W _ h => HOS.out v W h)
              refine wp_region_mono 9 (by kernel_rfl) (by kernel_rfl) ?_
              -- op 0 (slot 207): load
              refine MonoR.step (Pv.eq (p.v)) [] (by kernel_rfl) (fun w' hw' => ?_) ?_
              · refine ask_do rfl fun K hK => ?_
                have q0 := HLP.out w' hw'
                go_simp
                exact hK _ _ rfl rfl (World.grownBy.refl _ none)
              -- op 1 (slot 208): move
              refine MonoR.step (Pv.eq (.slice Ax nx cx)) [] (by kernel_rfl) (fun w' hw' => ?_) ?_
              · refine ask_do rfl fun K hK => ?_
                go_simp
                exact hK _ _ rfl rfl (World.grownBy.refl _ none)
              -- op 2 (slot 209): call
              refine MonoR.step (Pv.sl (encU) TT SN) [(1, 208)] (by kernel_rfl) (fun w' hw' => ?_) ?_
              · intro x208 h208
                have e208 : x208 = .slice Ax nx cx := h208
                clear h208
                subst e208
                refine ask_do rfl fun K hK => ?_
                go_simp
                refine (HPR.out w' hw').mono ?_
                rintro e w3 ⟨v3, rfl, hs3, hg3⟩
                exact hK _ _ rfl (hs3.more fun _ _ _ => trivial) hg3
              -- op 3 (slot 210): call
              refine MonoR.step (Pv.tup (encP) SX 0) [(0, 207), (2, 209)] (by kernel_rfl) (fun w' hw' => ?_) ?_
              · intro x207 h207
                intro x209 h209
                have h209 : Sl (encU) TT w' x209 SN := h209
                have e207 : x207 = p.v := h207
                clear h207
                subst e207
                refine ask_do rfl fun K hK => ?_
                go_simp
                refine (HOS2.out x209 w' hw' h209).mono ?_
                rintro e w3 ⟨v3, rfl, hs3, hg3⟩
                exact hK _ _ rfl ⟨_, rfl, hs3⟩ hg3
              -- op 4 (slot 206): move
              refine MonoR.step (Pv.tup (encP) SX 0) [(3, 210)] (by kernel_rfl) (fun w' hw' => ?_) ?_
              · intro x210 h210
                have h210 : ∃ u, x210 = .tuple #[u, .int .i64 0] ∧ Sl (encP) TT w' u SX := h210
                obtain ⟨u210, e210, k210⟩ := h210
                subst e210
                refine ask_do rfl fun K hK => ?_
                go_simp
                exact hK _ _ rfl ⟨u210, rfl, k210⟩ (World.grownBy.refl _ none)
              -- op 5 (slot 211): extract
              refine MonoR.step (Pv.sl (encP) TT SX) [(4, 206)] (by kernel_rfl) (fun w' hw' => ?_) ?_
              · intro x206 h206
                have h206 : ∃ u, x206 = .tuple #[u, .int .i64 0] ∧ Sl (encP) TT w' u SX := h206
                obtain ⟨u206, e206, k206⟩ := h206
                subst e206
                refine ask_do rfl fun K hK => ?_
                go_simp
                exact hK _ _ rfl k206 (World.grownBy.refl _ none)
              -- op 6 (slot 212): extract
              refine MonoR.step (Pv.eq (.int .i64 0)) [(4, 206)] (by kernel_rfl) (fun w' hw' => ?_) ?_
              · intro x206 h206
                have h206 : ∃ u, x206 = .tuple #[u, .int .i64 0] ∧ Sl (encP) TT w' u SX := h206
                obtain ⟨u206, e206, k206⟩ := h206
                subst e206
                refine ask_do rfl fun K hK => ?_
                go_simp
                exact hK _ _ rfl rfl (World.grownBy.refl _ none)
              -- op 7 (slot 28): assign
              refine MonoR.step (Pv.sl (encP) TT SX) [(5, 211)] (by kernel_rfl) (fun w' hw' => ?_) ?_
              · intro x211 h211
                have h211 : Sl (encP) TT w' x211 SX := h211
                refine ask_do rfl fun K hK => ?_
                go_simp
                exact hK _ _ rfl h211 (World.grownBy.refl _ none)
              -- op 8 (slot 29): assign
              refine MonoR.step (Pv.eq (.int .i64 0)) [(6, 212)] (by kernel_rfl) (fun w' hw' => ?_) ?_
              · intro x212 h212
                have e212 : x212 = .int .i64 0 := h212
                clear h212
                subst e212
                refine ask_do rfl fun K hK => ?_
                go_simp
                exact hK _ _ rfl rfl (World.grownBy.refl _ none)
              
              intro w13 hw13
              intro y0 k0 y1 k1 y2 k2 y3 k3 y4 k4 y5 k5 y6 k6 y7 k7 y8 k8
              refine wpList_nil ?_
              simp only [Act.put, List.setIfInBounds_toArray, List.set_cons_zero, List.set_cons_succ]
              have k7 : Sl encP TT w13 y7 SX := k7
              have e8 : y8 = .int .i64 0 := k8
              subst e8
              obtain ⟨A28, n28, c28, rfl⟩ := k7.shape
              have HO28 := Lib.hid k7
              have HG13 : Hid (w4.grownBy w13 none) := Lib.hid (HD12.out.trans hw13)
              clear k0 k1 k2 k3 k4 k5 k6 k7 k8 hw13 HLP HPR HOS2 HOS
              go_upto_region 27 with (fail)
              have HD13 : Hid (w13.grownBy w13.drew none) := Lib.hid (grown_drewN' _ 1)
              have HLP : Hid (∀ W, w13.drew.grownBy W none → ∀ o, W.cell? ⟨w.heap.size, o, none⟩ = (#[.int .u64 p.P, .int .u64 p.Q, .int .u64 p.G, .int .u64 p.H, .int .i64 p.Nodes, .int .i64 p.N, .int .i64 p.T, .int .i64 p.K, .int .i64 p.D, .int .i64 p.R, .int .i64 p.M, .int .i64 p.X] : Array Value)[o]?) := Lib.hid (fun W hg => (HCELL.out W ((HG13.out.trans HD13.out).trans hg)).1)
              have HPR : Hid (∀ W, w13.drew.grownBy W none → Calls Tryz.prog 27 #[.slice Ak nk ck] W (Gives encU (fun g => W.heap.size ≤ g) W CF)) := Lib.hid (fun W hg => by
                rw [HSXE.out.2.2.2.2]
                exact dflat_any _ CM TT W (HK4.out.kept ((HG13.out.trans HD13.out).trans hg)) (by have := HSXE.out.2.1; omega) (fun x hx => by have := HSXE.out.2.2.1 x hx; omega))
              have HOC2 : Hid (∀ v W, w13.drew.grownBy W none → Sl encU TT W v CF → Calls Tryz.prog 26 #[p.v, v] W fun e w' => ∃ u, e = .returned (.tuple #[u, .int .i64 0]) ∧ Sl (encS encU) TT w' u CM ∧ W.grownBy w' none) := Lib.hid (fun v W _ h => HOC.out v W h)
              refine wp_region_mono 9 (by kernel_rfl) (by kernel_rfl) ?_
              -- op 0 (slot 214): load
              refine MonoR.step (Pv.eq (p.v)) [] (by kernel_rfl) (fun w' hw' => ?_) ?_
              · refine ask_do rfl fun K hK => ?_
                have q0 := HLP.out w' hw'
                go_simp
                exact hK _ _ rfl rfl (World.grownBy.refl _ none)
              -- op 1 (slot 215): move
              refine MonoR.step (Pv.eq (.slice Ak nk ck)) [] (by kernel_rfl) (fun w' hw' => ?_) ?_
              · refine ask_do rfl fun K hK => ?_
                go_simp
                exact hK _ _ rfl rfl (World.grownBy.refl _ none)
              -- op 2 (slot 216): call
              refine MonoR.step (Pv.sl (encU) TT CF) [(1, 215)] (by kernel_rfl) (fun w' hw' => ?_) ?_
              · intro x215 h215
                have e215 : x215 = .slice Ak nk ck := h215
                clear h215
                subst e215
                refine ask_do rfl fun K hK => ?_
                go_simp
                refine (HPR.out w' hw').mono ?_
                rintro e w3 ⟨v3, rfl, hs3, hg3⟩
                exact hK _ _ rfl (hs3.more fun _ _ _ => trivial) hg3
              -- op 3 (slot 217): call
              refine MonoR.step (Pv.tup (encS encU) CM 0) [(0, 214), (2, 216)] (by kernel_rfl) (fun w' hw' => ?_) ?_
              · intro x214 h214
                intro x216 h216
                have h216 : Sl (encU) TT w' x216 CF := h216
                have e214 : x214 = p.v := h214
                clear h214
                subst e214
                refine ask_do rfl fun K hK => ?_
                go_simp
                refine (HOC2.out x216 w' hw' h216).mono ?_
                rintro e w3 ⟨v3, rfl, hs3, hg3⟩
                exact hK _ _ rfl ⟨_, rfl, hs3⟩ hg3
              -- op 4 (slot 213): move
              refine MonoR.step (Pv.tup (encS encU) CM 0) [(3, 217)] (by kernel_rfl) (fun w' hw' => ?_) ?_
              · intro x217 h217
                have h217 : ∃ u, x217 = .tuple #[u, .int .i64 0] ∧ Sl (encS encU) TT w' u CM := h217
                obtain ⟨u217, e217, k217⟩ := h217
                subst e217
                refine ask_do rfl fun K hK => ?_
                go_simp
                exact hK _ _ rfl ⟨u217, rfl, k217⟩ (World.grownBy.refl _ none)
              -- op 5 (slot 218): extract
              refine MonoR.step (Pv.sl (encS encU) TT CM) [(4, 213)] (by kernel_rfl) (fun w' hw' => ?_) ?_
              · intro x213 h213
                have h213 : ∃ u, x213 = .tuple #[u, .int .i64 0] ∧ Sl (encS encU) TT w' u CM := h213
                obtain ⟨u213, e213, k213⟩ := h213
                subst e213
                refine ask_do rfl fun K hK => ?_
                go_simp
                exact hK _ _ rfl k213 (World.grownBy.refl _ none)
              -- op 6 (slot 219): extract
              refine MonoR.step (Pv.eq (.int .i64 0)) [(4, 213)] (by kernel_rfl) (fun w' hw' => ?_) ?_
              · intro x213 h213
                have h213 : ∃ u, x213 = .tuple #[u, .int .i64 0] ∧ Sl (encS encU) TT w' u CM := h213
                obtain ⟨u213, e213, k213⟩ := h213
                subst e213
                refine ask_do rfl fun K hK => ?_
                go_simp
                exact hK _ _ rfl rfl (World.grownBy.refl _ none)
              -- op 7 (slot 30): assign
              refine MonoR.step (Pv.sl (encS encU) TT CM) [(5, 218)] (by kernel_rfl) (fun w' hw' => ?_) ?_
              · intro x218 h218
                have h218 : Sl (encS encU) TT w' x218 CM := h218
                refine ask_do rfl fun K hK => ?_
                go_simp
                exact hK _ _ rfl h218 (World.grownBy.refl _ none)
              -- op 8 (slot 31): assign
              refine MonoR.step (Pv.eq (.int .i64 0)) [(6, 219)] (by kernel_rfl) (fun w' hw' => ?_) ?_
              · intro x219 h219
                have e219 : x219 = .int .i64 0 := h219
                clear h219
                subst e219
                refine ask_do rfl fun K hK => ?_
                go_simp
                exact hK _ _ rfl rfl (World.grownBy.refl _ none)
              
              intro w14 hw14
              intro y0 k0 y1 k1 y2 k2 y3 k3 y4 k4 y5 k5 y6 k6 y7 k7 y8 k8
              refine wpList_nil ?_
              simp only [Act.put, List.setIfInBounds_toArray, List.set_cons_zero, List.set_cons_succ]
              have k7 : Sl (encS encU) TT w14 y7 CM := k7
              have e8 : y8 = .int .i64 0 := k8
              subst e8
              obtain ⟨A30, n30, c30, rfl⟩ := k7.shape
              have HO30 := Lib.hid k7
              have HG14 : Hid (w4.grownBy w14 none) := Lib.hid ((HG13.out.trans HD13.out).trans hw14)
              have HO28b := Lib.hid (HO28.out.kept (HD13.out.trans hw14))
              clear k0 k1 k2 k3 k4 k5 k6 k7 k8 hw14 HLP HPR HOC2 HOC HD13 HO28
              go_wp2_with fail
              refine (same_eq _ _ SX TT TT w14 HO28b.out (HX4.out.kept HG14.out)).mono ?_
              rintro e w15 ⟨rfl, m15, hm15⟩
              have HM15 : Hid (w14.grownBy w15 none) := Lib.hid (by rw [hm15]; exact grown_drewN' _ m15)
              clear hm15
              go_wp2_with fail
              refine (lists_eq _ _ CM TT TT w15 (HO30.out.kept HM15.out) (HK4.out.kept (HG14.out.trans HM15.out))).mono ?_
              rintro e w16 ⟨rfl, m16, hm16⟩
              have HGF : Hid (w.grownBy w16 none) := Lib.hid (by rw [hm16]; exact (HG4.out.trans (HG14.out.trans HM15.out)).trans (grown_drewN' _ m16))
              clear hm16
              go_wp2
              go_ret
              exact ⟨rfl, HGF.out⟩
            | succ q =>
              have hjI : (j : Int) < (np : Int) := by omega
              have hjb : j ≤ 10 := by have := HNP.out.2; omega
              have hjP : j < PS.length := by rw [← HNP.out.1]; omega
              have hj00 : (0 : Int) ≤ (j : Int) := Int.natCast_nonneg j
              have HSN : Hid (((PS.take (j + 1)).map fun z => [z]) = ((PS.take j).map fun z => [z]) ++ [[PS[j]]]) := Lib.hid (by rw [List.take_succ_eq_append_getElem hjP, List.map_append]; rfl)
              obtain ⟨gp, op, cp, ep, _, _, hc0, hc1, hu1, hu2⟩ := ((HNP.out.1 ▸ HPS.out : Sl encP TT wva (.slice A161 PS.length c161) PS).kept HGX.out).atP hjP
              injection ep with ep1 ep2 ep3
              clear ep2
              subst ep1 ep3
              obtain ⟨z, hz⟩ : ∃ z, z = PS[j] := ⟨_, rfl⟩
              rw [← hz] at HSN hc0 hc1 hu1 hu2
              obtain ⟨z1, z2⟩ := z
              simp only at hc0 hc1 hu1 hu2
              have HU : Hid (U64 z1 ∧ U64 z2) := Lib.hid ⟨hu1, hu2⟩
              have d0 : (wvr.alloc (Obj.cells #[.int .u64 z1, .int .u64 z2] 58)).cell? ⟨wvr.heap.size, 0, none⟩ = some (.int .u64 z1) := by simp
              have d1 : (wvr.alloc (Obj.cells #[.int .u64 z1, .int .u64 z2] 58)).cell? ⟨wvr.heap.size, 1, none⟩ = some (.int .u64 z2) := by simp
              have HG3 : Hid (wvr.grownBy (((wvr.alloc (Obj.cells #[.int .u64 z1, .int .u64 z2] 58)).alloc (Obj.cells #[.int .u64 z1, .int .u64 z2] 58)).alloc (Obj.cells #[.slice (some ⟨wvr.heap.size + 1, 0, none⟩) 1 1] 33)) none) := Lib.hid (((World.grownBy_alloc _ _ none).trans (World.grownBy_alloc _ _ none)).trans (World.grownBy_alloc _ _ none))
              have HKY : Hid (Bk (((wvr.alloc (Obj.cells #[.int .u64 z1, .int .u64 z2] 58)).alloc (Obj.cells #[.int .u64 z1, .int .u64 z2] 58)).alloc (Obj.cells #[.slice (some ⟨wvr.heap.size + 1, 0, none⟩) 1 1] 33)) (wvr.heap.size + 1 + 1) 33 #[.slice (some ⟨wvr.heap.size + 1, 0, none⟩) 1 1]) := Lib.hid (by
                have h := Bk.new ((wvr.alloc (Obj.cells #[.int .u64 z1, .int .u64 z2] 58)).alloc (Obj.cells #[.int .u64 z1, .int .u64 z2] 58)) 33 #[.slice (some ⟨wvr.heap.size + 1, 0, none⟩) 1 1]
                rw [World.size_alloc, World.size_alloc] at h
                exact h)
              have HZ3 : Hid (wva.heap.size ≤ (((wvr.alloc (Obj.cells #[.int .u64 z1, .int .u64 z2] 58)).alloc (Obj.cells #[.int .u64 z1, .int .u64 z2] 58)).alloc (Obj.cells #[.slice (some ⟨wvr.heap.size + 1, 0, none⟩) 1 1] 33)).heap.size) := Lib.hid (HGX.out.trans HG3.out).size
              have HAC3 := Lib.hid (HAC.out.kept HG3.out)
              have HGX3 : Hid (wva.grownBy _ none) := Lib.hid (HGX.out.trans HG3.out)
              have HREP : Hid ((encS encP).rep (fun g => TT g ∧ some g ≠ (Value.slice A23 n23 c23).ownBlock) (((wvr.alloc (Obj.cells #[.int .u64 z1, .int .u64 z2] 58)).alloc (Obj.cells #[.int .u64 z1, .int .u64 z2] 58)).alloc (Obj.cells #[.slice (some ⟨wvr.heap.size + 1, 0, none⟩) 1 1] 33)) [.slice (some ⟨wvr.heap.size + 1, 0, none⟩) 1 1] [(z1, z2)]) := Lib.hid ⟨_, rfl, by
                have h := Sl.build (E := encP) (w := wvr.alloc (Obj.cells #[.int .u64 z1, .int .u64 z2] 58)) (t := 58) (cs := #[.int .u64 z1, .int .u64 z2]) (xs := [(z1, z2)]) (n := 1) [[.int .u64 z1, .int .u64 z2]] rfl ⟨⟨rfl, HU.out⟩, trivial⟩ rfl (by decide)
                rw [World.size_alloc] at h
                exact (one_apart h fun e => by have := (HAC.out.lt _ e.symm).2; omega).kept (World.grownBy_alloc _ _ none)⟩
              have HLB : Hid ((((PS.take j).map fun z => [z]).length + 1) * 24 ≤ 140737488355328) := Lib.hid (by simp; have := HNP.out.2; omega)
              clear hz hu1 hu2 HAC HGX HG3 hjP
              go_wp2_with (at_builtin; refine wpList_plain rfl fun K hK => ?_; refine pushAt_core (E := encS encP) (y := [(z1, z2)]) el_pairs HAC3.out HREP.out (Bk.one HKY.out) HLB.out HZ3.out (fun _ _ => trivial) (.tmp 167) (.tmp 170) rfl rfl rfl ?_)
              intro v2 w2 hacc2 hg2 hgo
              refine hK _ _ ?_
              clear hK
              have HFIN : Hid (Acc (encS encP) wva.heap.size 33 TT w2 v2 ((PS.take (j + 1)).map fun z => [z]) ∧ wva.grownBy w2 none) := Lib.hid ⟨by rw [HSN.out, List.map_take]; exact hacc2, grown_up HGX3.out hg2 (fun b e => (HAC3.out.lt b e).1)⟩
              clear hacc2 hg2 hgo HAC3 HGX3 HREP HSN d0 d1 hc0 hc1 HKY HZ3
              go_wp2_with fail
              go_roundg q
              case measure => omega
              case rel => exact ⟨j + 1, by omega, by go_num, HFIN⟩
        | succ q =>
          have hjI : (j : Int) < (np : Int) := by omega
          have hjb : j ≤ 10 := by have := HNP.out.2; omega
          have hjP : j < PT.length := by rw [← HNP.out.1]; omega
          have hj00 : (0 : Int) ≤ (j : Int) := Int.natCast_nonneg j
          have HSN : Hid (((PT.take (j + 1)).map fun z => [z]) = ((PT.take j).map fun z => [z]) ++ [[PT[j]]]) := Lib.hid (by rw [List.take_succ_eq_append_getElem hjP, List.map_append]; rfl)
          obtain ⟨gp, op, cp, ep, _, _, hc0, hc1, hu1, hu2⟩ := ((HNP.out.1 ▸ HPT.out : Sl encP TT wua (.slice A141 PT.length c141) PT).kept HGX.out).atP hjP
          injection ep with ep1 ep2 ep3
          clear ep2
          subst ep1 ep3
          obtain ⟨z, hz⟩ : ∃ z, z = PT[j] := ⟨_, rfl⟩
          rw [← hz] at HSN hc0 hc1 hu1 hu2
          obtain ⟨z1, z2⟩ := z
          simp only at hc0 hc1 hu1 hu2
          have HU : Hid (U64 z1 ∧ U64 z2) := Lib.hid ⟨hu1, hu2⟩
          have d0 : (wur.alloc (Obj.cells #[.int .u64 z1, .int .u64 z2] 58)).cell? ⟨wur.heap.size, 0, none⟩ = some (.int .u64 z1) := by simp
          have d1 : (wur.alloc (Obj.cells #[.int .u64 z1, .int .u64 z2] 58)).cell? ⟨wur.heap.size, 1, none⟩ = some (.int .u64 z2) := by simp
          have HG3 : Hid (wur.grownBy (((wur.alloc (Obj.cells #[.int .u64 z1, .int .u64 z2] 58)).alloc (Obj.cells #[.int .u64 z1, .int .u64 z2] 58)).alloc (Obj.cells #[.slice (some ⟨wur.heap.size + 1, 0, none⟩) 1 1] 33)) none) := Lib.hid (((World.grownBy_alloc _ _ none).trans (World.grownBy_alloc _ _ none)).trans (World.grownBy_alloc _ _ none))
          have HKY : Hid (Bk (((wur.alloc (Obj.cells #[.int .u64 z1, .int .u64 z2] 58)).alloc (Obj.cells #[.int .u64 z1, .int .u64 z2] 58)).alloc (Obj.cells #[.slice (some ⟨wur.heap.size + 1, 0, none⟩) 1 1] 33)) (wur.heap.size + 1 + 1) 33 #[.slice (some ⟨wur.heap.size + 1, 0, none⟩) 1 1]) := Lib.hid (by
            have h := Bk.new ((wur.alloc (Obj.cells #[.int .u64 z1, .int .u64 z2] 58)).alloc (Obj.cells #[.int .u64 z1, .int .u64 z2] 58)) 33 #[.slice (some ⟨wur.heap.size + 1, 0, none⟩) 1 1]
            rw [World.size_alloc, World.size_alloc] at h
            exact h)
          have HZ3 : Hid (wua.heap.size ≤ (((wur.alloc (Obj.cells #[.int .u64 z1, .int .u64 z2] 58)).alloc (Obj.cells #[.int .u64 z1, .int .u64 z2] 58)).alloc (Obj.cells #[.slice (some ⟨wur.heap.size + 1, 0, none⟩) 1 1] 33)).heap.size) := Lib.hid (HGX.out.trans HG3.out).size
          have HAC3 := Lib.hid (HAC.out.kept HG3.out)
          have HGX3 : Hid (wua.grownBy _ none) := Lib.hid (HGX.out.trans HG3.out)
          have HREP : Hid ((encS encP).rep (fun g => TT g ∧ some g ≠ (Value.slice A22 n22 c22).ownBlock) (((wur.alloc (Obj.cells #[.int .u64 z1, .int .u64 z2] 58)).alloc (Obj.cells #[.int .u64 z1, .int .u64 z2] 58)).alloc (Obj.cells #[.slice (some ⟨wur.heap.size + 1, 0, none⟩) 1 1] 33)) [.slice (some ⟨wur.heap.size + 1, 0, none⟩) 1 1] [(z1, z2)]) := Lib.hid ⟨_, rfl, by
            have h := Sl.build (E := encP) (w := wur.alloc (Obj.cells #[.int .u64 z1, .int .u64 z2] 58)) (t := 58) (cs := #[.int .u64 z1, .int .u64 z2]) (xs := [(z1, z2)]) (n := 1) [[.int .u64 z1, .int .u64 z2]] rfl ⟨⟨rfl, HU.out⟩, trivial⟩ rfl (by decide)
            rw [World.size_alloc] at h
            exact (one_apart h fun e => by have := (HAC.out.lt _ e.symm).2; omega).kept (World.grownBy_alloc _ _ none)⟩
          have HLB : Hid ((((PT.take j).map fun z => [z]).length + 1) * 24 ≤ 140737488355328) := Lib.hid (by simp; have := HNP.out.2; omega)
          clear hz hu1 hu2 HAC HGX HG3 hjP
          go_wp2_with (at_builtin; refine wpList_plain rfl fun K hK => ?_; refine pushAt_core (E := encS encP) (y := [(z1, z2)]) el_pairs HAC3.out HREP.out (Bk.one HKY.out) HLB.out HZ3.out (fun _ _ => trivial) (.tmp 147) (.tmp 150) rfl rfl rfl ?_)
          intro v2 w2 hacc2 hg2 hgo
          refine hK _ _ ?_
          clear hK
          have HFIN : Hid (Acc (encS encP) wua.heap.size 33 TT w2 v2 ((PT.take (j + 1)).map fun z => [z]) ∧ wua.grownBy w2 none) := Lib.hid ⟨by rw [HSN.out, List.map_take]; exact hacc2, grown_up HGX3.out hg2 (fun b e => (HAC3.out.lt b e).1)⟩
          clear hacc2 hg2 hgo HAC3 HGX3 HREP HSN d0 d1 hc0 hc1 HKY HZ3
          go_wp2_with fail
          go_roundg q
          case measure => omega
          case rel => exact ⟨j + 1, by omega, by go_num, HFIN⟩
end Go.Proofs.YtnjkelojkoeihaaGreatDoor
