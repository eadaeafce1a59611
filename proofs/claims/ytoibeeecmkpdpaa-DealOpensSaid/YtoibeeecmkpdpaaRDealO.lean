/- consistoryref18.Open, walked. -/
import Derived.Test.YtoibeeecmkpdpaaRDeal
namespace Go.Proofs.Ytoibeeecmkpdpaa
open Go.RowKit

theorem chk_take {α : Type} (n k : Nat) (l : List α) : chk n (l.take (k * n)) k = chk n l k := by
  unfold chk
  apply List.map_congr_left
  intro j hj
  have hj' : j < k := by simpa using hj
  have : (j + 1) * n ≤ k * n := Nat.mul_le_mul_right n hj'
  rw [Nat.add_mul, Nat.one_mul] at this
  rw [List.drop_take, List.take_take, Nat.min_eq_left (by omega)]
theorem prsI_take (l : List Int) (k : Nat) : prsI (l.take (k * 2)) k = prsI l k := by
  unfold prsI
  rw [chk_take]
theorem chk_piece {α : Type} (n N : Nat) (l : List α) (a j i b : Nat) (hi : i = a + j) (hb : b = i * n) (h : i < N) : ((chk n l N).drop a).take (j + 1) = ((chk n l N).drop a).take j ++ [(l.drop b).take n] := by
  have hl : j < ((chk n l N).drop a).length := by rw [List.length_drop, chk_length]; omega
  rw [List.take_succ_eq_append_getElem hl, List.getElem_drop]
  congr 2
  subst hi hb
  simp [chk]
def RGives4 (Y : Nat → Prop) (w : World) (m : List (List (List Int))) (a b : List (List (Int × Int))) (n : Int) (e : Ending) (w' : World) : Prop :=
  ∃ vm va vb, e = .returned (.tuple #[vm, va, vb, .int .i64 n]) ∧ Sl (encS (encS encU)) Y w' vm m ∧ Sl (encS encP) Y w' va a ∧ Sl (encS encP) Y w' vb b ∧ w.grownBy w' none
set_option maxHeartbeats 1000000 in
theorem ropen_any (p : Par) (v : Value) (l : List Int) (k : Int) (X : Nat → Prop) (w : World) (h : Sl encU X w v l) (hb : l.length ≤ 1500) (hk : I64 k) :
    Calls Try.prog 6 #[p.v, v, .int .i64 k] w (RGives4 (fun g => w.heap.size ≤ g) w (opnM p l k) (opnA p l k) (opnB p l k) (opnE p l.length k)) := by
  have H := Lib.hid h
  obtain ⟨A, c, rfl, hlc, hcm⟩ := h.form
  have HB0 : Hid (Bk (w.alloc (Obj.cells p.cells 24)) w.heap.size 24 p.cells) := Lib.hid (Bk.new w _ _)
  have HG0 : Hid (w.grownBy (w.alloc (Obj.cells p.cells 24)) none) := Lib.hid (World.grownBy_alloc w _ none)
  have hp0 := HB0.out.prule
  obtain ⟨k0, k1⟩ := hk
  clear h
  cases hs : smallB p with
  | false =>
    have HE : Hid (opnE p l.length k = 1 ∧ opnM p l k = [] ∧ opnA p l k = [] ∧ opnB p l k = []) := Lib.hid (by simp [opnM, opnA, opnB, opnE, hs])
    have HC := Lib.hid (fun w => rsmall_no p w hs)
    clear hs
    go_enter Try.func6, Try.ntmps6
    go_wp2_with fail
    refine (HC.out _).mono ?_
    rintro e w1 ⟨rfl, hg⟩
    have HG := hidTrans hg HG0
    clear hg
    go_wp2
    refine bodyPost_ret (v := .tuple #[.slice none 0 0, .slice none 0 0, .slice none 0 0, .int .i64 1]) (by simp [results, Try.results6, go_sem]) rfl ?_
    rw [HE.out.1, HE.out.2.1, HE.out.2.2.1, HE.out.2.2.2]
    exact ⟨_, _, _, rfl, Sl.nil _ _ _, Sl.nil _ _ _, Sl.nil _ _ _, HG.out⟩
  | true =>
    have HC := Lib.hid (fun w => rsmall_yes p w hs)
    by_cases hk3 : 0 ≤ k ∧ k ≤ 3
    · obtain ⟨k2, k3⟩ := hk3
      have HS := Lib.hid (fun w => rsecrets_any p w hs)
      obtain ⟨kk, rfl⟩ := Int.eq_ofNat_of_zero_le k2
      obtain ⟨q, t, hq, ht, q1, t1, t2⟩ := sec_nat hs
      obtain ⟨qt, hqt⟩ : ∃ n, n = q * t := ⟨_, rfl⟩
      obtain ⟨F, hF⟩ : ∃ n, n = qt * t := ⟨_, rfl⟩
      obtain ⟨M, hM⟩ : ∃ n, n = 2 * q * kk := ⟨_, rfl⟩
      have bqt : qt ≤ 30 := by rw [hqt]; exact Nat.mul_le_mul q1 t2
      have bF : F ≤ 90 := by rw [hF]; exact Nat.mul_le_mul bqt t2
      have bM : M ≤ 60 := by rw [hM]; exact Nat.mul_le_mul (Nat.mul_le_mul_left 2 q1) (show kk ≤ 3 by omega)
      have e1 : (q : Int) * (t : Int) = (qt : Int) := by rw [hqt]; simp
      have e2 : (qt : Int) * (t : Int) = (F : Int) := by rw [hF]; simp
      have e3' : 2 * (q : Int) * (kk : Int) = (M : Int) := by rw [hM]; simp
      have e3 : 4 * (q : Int) * (kk : Int) = 2 * (M : Int) := by rw [← e3']; rw [show (4 : Int) = 2 * 2 from rfl, Int.mul_assoc, Int.mul_assoc, Int.mul_assoc]
      rw [hq] at HS
      have HC4 : opnE p l.length (kk : Int) = if (l.length : Int) = F + 2 * M then 0 else 4 := by
        simp only [opnE, hs, hq, ht, e1, e2, e3']
        simp [k2, k3]
      have ht1 : (p.T + 1).toNat = t := by omega
      have hq1 : (secI p).toNat = q := by omega
      have hTe : p.T + 1 = (t : Int) := ht
      have hT0 : 0 ≤ p.T := by omega
      have hT2 : p.T ≤ 2 := by omega
      by_cases hl : (l.length : Int) = F + 2 * M
      · rw [if_pos hl] at HC4
        have hMq : M = (q * kk) * 2 := by rw [hM, Nat.mul_assoc, Nat.mul_comm]
        have hqk : q * kk ≤ 30 := Nat.mul_le_mul q1 (show kk ≤ 3 by omega)
        have HEM : Hid (opnM p l kk = chk t (chk t l qt) q) := Lib.hid (by simp only [opnM, HC4, ht1, hq1, if_true]; rw [← hqt, chk_take])
        have HEA : Hid (opnA p l kk = chk kk (prsI (l.drop F) (q * kk)) q) := Lib.hid (by simp only [opnA, HC4, ht1, hq1, if_true, Int.toNat_natCast]; rw [← hqt, ← hF, ← hM, hMq, prsI_take])
        have HEB : Hid (opnB p l kk = chk kk (prsI ((l.drop F).drop ((q * kk) * 2)) (q * kk)) q) := Lib.hid (by simp only [opnB, HC4, ht1, hq1, if_true, Int.toNat_natCast]; rw [← hqt, ← hF, ← hM, hMq, List.drop_drop])
        have HE0 := Lib.hid HC4
        have HL1 := Lib.hid (fun (v : Value) (w' : World) (hw : w.grownBy w' none) (hv : Sl encU X w v (l.drop F)) => rlists_any p v (l.drop F) q kk X w' hs hq q1 (hv.kept hw) (by rw [← hMq, List.length_drop]; omega) (by omega))
        have HL2 := Lib.hid (fun (v : Value) (w' : World) (hv : Sl encU X w' v ((l.drop F).drop ((q * kk) * 2))) => rlists_any p v ((l.drop F).drop ((q * kk) * 2)) q kk X w' hs hq q1 hv (by rw [← hMq, List.length_drop, List.length_drop]; omega) (by omega))
        have hd : ((l.length : Int) != (F : Int) + 2 * (M : Int)) = false := by simpa using hl
        have HFF := Lib.hid (And.intro hF hqt)
        have HLL : Hid (F ≤ l.length) := Lib.hid (by omega)
        clear hs hl hq ht HC4 ht1 hq1 hMq hF hqt hM e3' hqk
        go_enter Try.func6, Try.ntmps6
        go_wp2_with fail
        refine (HC.out _).mono ?_
        rintro e w1 ⟨rfl, hg⟩
        have HG1 := hidTrans hg HG0
        have HB1 := bkGrown hg HB0
        have hp1 := HB1.out.prule
        clear hg hp0
        go_wp2_with fail
        refine (HS.out _).mono ?_
        rintro e w2 ⟨rfl, hg⟩
        have HG2 := hidTrans hg HG1
        have HB2 := bkGrown hg HB1
        have hp2 := HB2.out.prule
        clear hg hp1
        have HST : Hid (Sl encU X w (.slice A l.length c) (l.drop 0) ∧ Acc (encS (encS encU)) w.heap.size 36 (fun g => w.heap.size ≤ g) w2 (.slice none 0 0) (chk t (chk t l qt) 0) ∧ w.grownBy w2 none ∧ Bk w2 w.heap.size 24 p.cells) := Lib.hid ⟨by simpa using H.out, Acc.nil _ _ _ _ _, HG2.out, HB2.out⟩
        have HI0 : Hid (0 = 0 * t ∧ 0 = 0 * t) := Lib.hid (by simp)
        go_wp2_with fail
        go_loopg [1, 11, 12] q (fun g s1 s11 s12 wx => ∃ s a b : Nat, s + g = q ∧ s12 = .int .i64 s ∧ Hid (a = s * t ∧ b = a * t) ∧ Hid (Sl encU X w s1 (l.drop b) ∧ Acc (encS (encS encU)) w.heap.size 36 (fun g => w.heap.size ≤ g) wx s11 (chk t (chk t l qt) s) ∧ w.grownBy wx none ∧ Bk wx w.heap.size 24 p.cells))
        case atStart => exact ⟨0, 0, 0, by omega, rfl, HI0, HST⟩
        case round =>
          obtain ⟨s, a, b, hsq, rfl, HAB, HX⟩ := hrel
          cases gk with
          | zero =>
            obtain rfl : s = q := by omega
            have HNB : Hid (b = F) := Lib.hid (by rw [HAB.out.2, HAB.out.1, HFF.out.1, HFF.out.2])
            have HS1 : Hid (Sl encU X w u1 (l.drop F)) := Lib.hid (HNB.out ▸ HX.out.1)
            have HAM := Lib.hid HX.out.2.1
            have HGr := Lib.hid HX.out.2.2.1
            have HBr := Lib.hid HX.out.2.2.2
            have hp := HX.out.2.2.2.prule
            clear HX HST HB2 hp2 HNB
            go_wp2_with fail
            refine (HL1.out _ _ HGr.out HS1.out).mono ?_
            rintro e w3 ⟨v1, v2, rfl, hs1, hs2, hg3⟩
            have HG3 := Lib.hid (HGr.out.trans hg3)
            have HB3 := Lib.hid (HBr.out.grown hg3 (by simp))
            have HV1 := Lib.hid hs1
            have HV2 := Lib.hid (hs2.kept hg3)
            have HAM3 := Lib.hid (HAM.out.kept hg3)
            have hp3 := HB3.out.prule
            clear hs1 hs2 hg3 hp
            go_wp2_with fail
            refine (HL2.out _ _ HV2.out).mono ?_
            rintro e w4 ⟨v3, v4, rfl, hs3, hs4, hg4⟩
            have HFIN : Hid (Sl (encS (encS encU)) (fun g => w.heap.size ≤ g) w4 u11 (chk t (chk t l qt) s) ∧ Sl (encS encP) (fun g => w.heap.size ≤ g) w4 v1 (chk kk (prsI (l.drop F) (s * kk)) s) ∧ Sl (encS encP) (fun g => w.heap.size ≤ g) w4 v3 (chk kk (prsI ((l.drop F).drop ((s * kk) * 2)) (s * kk)) s) ∧ w.grownBy w4 none) :=
              Lib.hid ⟨(HAM3.out.kept hg4).sl, (HV1.out.kept hg4).more (fun g _ h => Nat.le_trans HGr.out.size h), hs3.more (fun g _ h => Nat.le_trans HG3.out.size h), HG3.out.trans hg4⟩
            clear hs3 hs4 hg4 hp3
            go_wp2
            refine bodyPost_ret (v := .tuple #[u11, v1, v3, .int .i64 0]) (by simp [results, Try.results6, go_sem]) rfl ?_
            rw [HE0.out, HEM.out, HEA.out, HEB.out]
            exact ⟨_, _, _, rfl, HFIN.out.1, HFIN.out.2.1, HFIN.out.2.2.1, HFIN.out.2.2.2⟩
          | succ m =>
            have hls : (s : Int) < (q : Int) := by omega
            have HY : Hid (Acc (encS (encS encU)) w.heap.size 36 (fun g => w.heap.size ≤ g) wr u11 (chk t (chk t l qt) s) ∧ w.grownBy wr none ∧ Bk wr w.heap.size 24 p.cells) := Lib.hid HX.out.2
            have HIN : Hid (Sl encU X w u1 (l.drop b) ∧ Acc (encS encU) wr.heap.size 25 (fun g => wr.heap.size ≤ g) wr (.slice none 0 0) (((chk t l qt).drop a).take 0) ∧ wr.grownBy wr none ∧ Bk wr w.heap.size 24 p.cells) := Lib.hid ⟨HX.out.1, Acc.nil _ _ _ _ _, World.grownBy.refl _ _, HX.out.2.2.2⟩
            have HI1 : Hid (a = a + 0 ∧ b = a * t) := Lib.hid ⟨rfl, HAB.out.2⟩
            have HAQ : Hid (a + t ≤ qt) := Lib.hid (by
              have : (s + 1) * t ≤ q * t := Nat.mul_le_mul_right t (by omega)
              rw [Nat.add_mul, Nat.one_mul] at this
              have := HFF.out.2
              have := HAB.out.1
              omega)
            clear HX HST HB2 hp2
            go_wp2_with fail
            go_loopg [1, 13, 14] t (fun g s1 s13 s14 wx => ∃ j i b : Nat, j + g = t ∧ s14 = .int .i64 j ∧ Hid (i = a + j ∧ b = i * t) ∧ Hid (Sl encU X w s1 (l.drop b) ∧ Acc (encS encU) wr.heap.size 25 (fun g => wr.heap.size ≤ g) wx s13 (((chk t l qt).drop a).take j) ∧ wr.grownBy wx none ∧ Bk wx w.heap.size 24 p.cells))
            case atStart => exact ⟨0, a, b, by omega, rfl, HI1, HIN⟩
            case round =>
              rename World => wy
              obtain ⟨j, i, b', hj, rfl, HIB, HX⟩ := hrel
              cases gk with
              | zero =>
                obtain rfl : j = t := by omega
                obtain ⟨hs1, hacc, hg, hbp⟩ := HX.out
                have hp := hbp.prule
                have hnT : ¬ (j : Int) ≤ p.T := by omega
                have hTL : (((chk j l qt).drop a).take j).length = j := by
                  have := HAQ.out
                  rw [List.length_take, List.length_drop, chk_length]
                  omega
                obtain ⟨A1, c1, e0, _, _⟩ := hacc.sl.form
                rw [hTL] at e0
                subst e0
                have HOW := HY.out.1.lt
                have HREP : Hid (Enc.rep (encS (encS encU)) (fun g => w.heap.size ≤ g ∧ some g ≠ u11.ownBlock) wy [.slice A1 j c1] (((chk j l qt).drop a).take j)) := Lib.hid ⟨_, rfl, hacc.sl.more fun g _ hgX => ⟨Nat.le_trans HY.out.2.1.size hgX, fun e => by have := (HOW g e.symm).2; omega⟩⟩
                have HAC := Lib.hid (HY.out.1.kept hg)
                have HG := Lib.hid (HY.out.2.1.trans hg)
                have HBp := Lib.hid hbp
                have HLB : Hid (((chk j (chk j l qt) s).length + 1) * 24 ≤ 140737488355328) := Lib.hid (by rw [chk_length]; omega)
                have HN1 := Lib.hid hs1
                have HSN : Hid (chk j (chk j l qt) (s + 1) = chk j (chk j l qt) s ++ [((chk j l qt).drop a).take j]) := Lib.hid (by rw [chk_succ, HAB.out.1])
                have HNA : Hid (i = (s + 1) * j ∧ b' = i * j) := Lib.hid ⟨by rw [Nat.add_mul, Nat.one_mul, HIB.out.1, HAB.out.1], HIB.out.2⟩
                clear hs1 hacc hg hbp HX HIN hTL HOW
                generalize ((chk j l qt).drop a).take j = pc at HREP HSN
                go_wp2_with (at_builtin; refine wpList_pushG rfl (.tmp 75) (.tmp 77) rfl (E := encS (encS encU)) el_rows HG.out HAC.out (fun _ h => h) HREP.out HLB.out rfl rfl ?_)
                intro v2 w2 hacc2 hg2 hgo
                have HFIN : Hid (Sl encU X w u1 (l.drop b') ∧ Acc (encS (encS encU)) w.heap.size 36 (fun g => w.heap.size ≤ g) w2 v2 (chk j (chk j l qt) (s + 1)) ∧ w.grownBy w2 none ∧ Bk w2 w.heap.size 24 p.cells) :=
                  Lib.hid ⟨HN1.out, by rw [HSN.out]; exact hacc2, hg2, HBp.out.grown hgo (fun e => HAC.out.ne_bk HBp.out (by decide) e.symm)⟩
                clear hacc2 hg2 hgo hp
                go_wp2_with fail
                go_roundg m
                case measure => omega
                case rel => exact ⟨s + 1, i, b', by omega, by go_num, HNA, HFIN⟩
              | succ n =>
                obtain ⟨hs1, hacc, hg, hbp⟩ := HX.out
                have hjT : (j : Int) ≤ p.T := by omega
                have hiq : i + 1 ≤ qt := by have := HAQ.out; have := HIB.out.1; omega
                have hbt : b' + t ≤ l.length := by
                  have h1 : (i + 1) * t ≤ qt * t := Nat.mul_le_mul_right t hiq
                  rw [Nat.add_mul, Nat.one_mul] at h1
                  have := HFF.out.1
                  have := HIB.out.2
                  have := HLL.out
                  omega
                have hd' : (l.drop b').length = l.length - b' := List.length_drop
                obtain ⟨A1, c1, e0, hc1, hc2⟩ := hs1.form
                subst e0
                obtain ⟨ga, oa, eA, hga, _⟩ := hs1.addr (by omega)
                subst eA
                rw [hd'] at hc1 hs1 ⊢
                have HTK : Hid (Sl encU X wy (.slice (some ⟨ga, oa, none⟩) t c1) ((l.drop b').take t)) := Lib.hid ((hs1.kept (HY.out.2.1.trans hg)).take t (by omega))
                have HDR : Hid (Sl encU X w (.slice (some ⟨ga, oa + t, none⟩) (l.length - b' - t) (c1 - t)) (l.drop (b' + t))) := Lib.hid (by
                  have := hs1.drop t (by omega)
                  rwa [List.drop_drop, show t * encU.size = t from Nat.mul_one t] at this)
                have HDE : Hid (c1 = t → l.length - b' - t = 0 ∧ l.drop (b' + t) = []) := Lib.hid (fun e => ⟨by omega, List.drop_eq_nil_of_le (by omega)⟩)
                have HTL : Hid (((l.drop b').take t).length = t) := Lib.hid (by rw [List.length_take, List.length_drop]; omega)
                have HBY : Hid (((l.drop b').take t).length * 8 ≤ 140737488355328) := Lib.hid (by rw [HTL.out]; omega)
                have HOW := Lib.hid hacc.lt
                have HYY : Hid (∀ g, wy.heap.size ≤ g → wr.heap.size ≤ g ∧ some g ≠ u13.ownBlock) := Lib.hid (fun g h => ⟨Nat.le_trans hg.size h, fun e => by have := (HOW.out g e.symm).2; omega⟩)
                have HAC := Lib.hid hacc
                have HG := Lib.hid hg
                have HBp := Lib.hid hbp
                have hp := hbp.prule
                have hpa := (hbp.alloc (Obj.cells #[] 22)).prule
                have hlp := hbp.lt
                have HSN := Lib.hid (chk_piece t qt l a j i b' HIB.out.1 HIB.out.2 hiq)
                have HLB : Hid (((((chk t l qt).drop a).take j).length + 1) * 24 ≤ 140737488355328) := Lib.hid (by rw [List.length_take]; omega)
                have HIN2 : Hid (i + 1 = a + (j + 1) ∧ b' + t = (i + 1) * t) := Lib.hid ⟨by have := HIB.out.1; omega, by rw [Nat.add_mul, Nat.one_mul, HIB.out.2]⟩
                obtain ⟨L, hL⟩ : ∃ L, L = l.length - b' := ⟨_, rfl⟩
                rw [← hL] at hc1 HDR HDE ⊢
                have i1 : (t : Int) ≤ (L : Int) := by omega
                have i2 : (t : Int) ≤ (c1 : Int) := by omega
                clear hs1 hacc hg hbp HX HIN hbt hd' hL
                generalize (l.drop b').take t = pc at HTK HTL HBY HSN
                go_wp2_with (at_builtin; refine wpList_copyG rfl (.tmp 61) (.tmp 66) rfl (E := encU) (Y := fun g => wr.heap.size ≤ g ∧ some g ≠ u13.ownBlock) el_u64 rfl rfl HTK.out HBY.out HYY.out (fun _ _ _ h => h) ?_)
                intro A2 c2 w3 hacc3 hg3
                rw [HTL.out] at hacc3 ⊢
                have HREP : Hid (Enc.rep (encS encU) (fun g => wr.heap.size ≤ g ∧ some g ≠ u13.ownBlock) w3 [.slice A2 t c2] pc) := Lib.hid ⟨_, rfl, hacc3.sl⟩
                have HAC3 := Lib.hid (HAC.out.kept hg3)
                have HG3 := Lib.hid (HG.out.trans hg3)
                have HBp3 := Lib.hid (HBp.out.grown hg3 (by simp))
                clear hacc3 hg3 hp hpa hlp
                have hp := HBp3.out.prule
                go_wp2_with (at_builtin; refine wpList_pushG rfl (.tmp 60) (.tmp 68) rfl (E := encS encU) el_nums HG3.out HAC3.out (fun _ h => h) HREP.out HLB.out rfl rfl ?_)
                intro v5 w5 hacc5 hg5 hgo
                have HFIN : Hid (Acc (encS encU) wr.heap.size 25 (fun g => wr.heap.size ≤ g) w5 v5 (((chk t l qt).drop a).take (j + 1)) ∧ wr.grownBy w5 none ∧ Bk w5 w.heap.size 24 p.cells) :=
                  Lib.hid ⟨by rw [HSN.out]; exact hacc5, hg5, HBp3.out.grown hgo (fun e => HAC3.out.ne_bk HBp3.out (by decide) e.symm)⟩
                clear hacc5 hg5 hgo hp
                have hp := HFIN.out.2.2.prule
                go_wp2_with fail
                all_goals
                  go_roundg n
                  case measure => omega
                  case rel => first | exact ⟨j + 1, i + 1, b' + t, by omega, by go_num, HIN2, Lib.hid ⟨HDR.out, HFIN.out⟩⟩ | exact ⟨j + 1, i + 1, b' + t, by omega, by go_num, HIN2, Lib.hid ⟨by rw [(HDE.out (by assumption)).1, (HDE.out (by assumption)).2]; exact Sl.empty _ _ _ _ _ (by omega), HFIN.out⟩⟩
      · have HC5 : opnE p l.length (kk : Int) = 4 := by rw [HC4, if_neg hl]
        have HEM : Hid (opnE p l.length (kk : Int) = 4 ∧ opnM p l kk = [] ∧ opnA p l kk = [] ∧ opnB p l kk = []) := Lib.hid (by simp [opnM, opnA, opnB, HC5])
        have hd : ((l.length : Int) != (F : Int) + 2 * (M : Int)) = true := by simpa using hl
        clear hs hl hq ht hqt hF hM HC4 HC5 ht1 hq1 hlc e3'
        go_enter Try.func6, Try.ntmps6
        go_wp2_with fail
        refine (HC.out _).mono ?_
        rintro e w1 ⟨rfl, hg⟩
        have HG1 := hidTrans hg HG0
        have HB1 := bkGrown hg HB0
        have hp1 := HB1.out.prule
        clear hg hp0
        go_wp2_with fail
        refine (HS.out _).mono ?_
        rintro e w2 ⟨rfl, hg⟩
        have HG2 := hidTrans hg HG1
        have HB2 := bkGrown hg HB1
        have hp2 := HB2.out.prule
        clear hg hp1
        go_wp2
        refine bodyPost_ret (v := .tuple #[.slice none 0 0, .slice none 0 0, .slice none 0 0, .int .i64 4]) (by simp [results, Try.results6, go_sem]) rfl ?_
        rw [HEM.out.1, HEM.out.2.1, HEM.out.2.2.1, HEM.out.2.2.2]
        exact ⟨_, _, _, rfl, Sl.nil _ _ _, Sl.nil _ _ _, Sl.nil _ _ _, HG2.out⟩
    · have HE : Hid (opnE p l.length k = 1 ∧ opnM p l k = [] ∧ opnA p l k = [] ∧ opnB p l k = []) := Lib.hid (by simp only [opnM, opnA, opnB, opnE]; simp [hs, hk3])
      clear hs
      by_cases hkn : 0 ≤ k
      · have hkx : 3 < k := by omega
        clear hk3
        go_enter Try.func6, Try.ntmps6
        go_wp2_with fail
        refine (HC.out _).mono ?_
        rintro e w1 ⟨rfl, hg⟩
        have HG := hidTrans hg HG0
        clear hg
        go_wp2
        refine bodyPost_ret (v := .tuple #[.slice none 0 0, .slice none 0 0, .slice none 0 0, .int .i64 1]) (by simp [results, Try.results6, go_sem]) rfl ?_
        rw [HE.out.1, HE.out.2.1, HE.out.2.2.1, HE.out.2.2.2]
        exact ⟨_, _, _, rfl, Sl.nil _ _ _, Sl.nil _ _ _, Sl.nil _ _ _, HG.out⟩
      · have hkx : k < 0 := by omega
        clear hk3 hkn
        go_enter Try.func6, Try.ntmps6
        go_wp2_with fail
        refine (HC.out _).mono ?_
        rintro e w1 ⟨rfl, hg⟩
        have HG := hidTrans hg HG0
        clear hg
        go_wp2
        refine bodyPost_ret (v := .tuple #[.slice none 0 0, .slice none 0 0, .slice none 0 0, .int .i64 1]) (by simp [results, Try.results6, go_sem]) rfl ?_
        rw [HE.out.1, HE.out.2.1, HE.out.2.2.1, HE.out.2.2.2]
        exact ⟨_, _, _, rfl, Sl.nil _ _ _, Sl.nil _ _ _, Sl.nil _ _ _, HG.out⟩
end Go.Proofs.Ytoibeeecmkpdpaa
