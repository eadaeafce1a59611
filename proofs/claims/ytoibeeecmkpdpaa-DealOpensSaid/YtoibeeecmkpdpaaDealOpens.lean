/- consistorylaw18.DealOpens, walked. -/
import Derived.Test.YtoibeeecmkpdpaaRDealO
import Derived.Test.YtoibeeecmkpdpaaCmp
import Derived.Test.YtoibeeecmkpdpaaSpoil
import Derived.Deep.CutBlock
namespace Go.Proofs.Ytoibeeecmkpdpaa
open Go.RowKit

theorem chk_mem {α : Type} {n k : Nat} {l : List α} {c : List α} (h : c ∈ chk n l k) (hl : k * n ≤ l.length) : c.length = n ∧ ∀ x ∈ c, x ∈ l := by
  obtain ⟨j, hj, rfl⟩ := List.mem_map.1 h
  have hj' : j < k := by simpa using hj
  have : (j + 1) * n ≤ k * n := Nat.mul_le_mul_right n hj'
  rw [Nat.add_mul, Nat.one_mul] at this
  refine ⟨by rw [List.length_take, List.length_drop]; omega, fun x hx => ?_⟩
  exact List.mem_of_mem_drop (List.mem_of_mem_take hx)
theorem opnM_long (p : Par) (l : List Int) (k : Int) : ∀ f ∈ opnM p l k, ∀ c ∈ f, 0 < c.length := by
  intro f hf c hc
  unfold opnM at hf
  split at hf
  · rename_i h0
    unfold opnE at h0
    split at h0
    · rename_i hs
      split at h0
      · rename_i hl
        obtain ⟨q, t, hq, ht, q1, t1, t2⟩ := sec_nat hs.1
        obtain ⟨kk, rfl⟩ := Int.eq_ofNat_of_zero_le hs.2.1
        rw [hq, ht] at hl
        rw [hq, ht, Int.toNat_natCast, Int.toNat_natCast] at hf
        have hl2 : l.length = q * t * t + 2 * (2 * q * kk) := by exact_mod_cast hl
        obtain ⟨_, h2⟩ := chk_mem hf (by rw [chk_length]; exact Nat.le_refl _)
        obtain ⟨h3, _⟩ := chk_mem (h2 c hc) (by rw [List.length_take]; omega)
        omega
      · cases h0
    · cases h0
  · cases hf
theorem ocL_long (p : Par) (l : List Int) : ∀ c ∈ ocL p l, 0 < c.length := by
  intro c hc
  unfold ocL at hc
  split at hc
  · rename_i h0
    unfold ocE at h0
    split at h0
    · rename_i hs
      split at h0
      · rename_i hl
        obtain ⟨q, t, hq, ht, q1, t1, t2⟩ := sec_nat hs
        rw [hq, ht] at hl
        rw [hq, ht, Int.toNat_natCast, Int.toNat_natCast] at hc
        have hl2 : l.length = t * q := by exact_mod_cast hl
        obtain ⟨h3, _⟩ := chk_mem hc (by rw [hl2, Nat.mul_comm]; exact Nat.le_refl _)
        omega
      · cases h0
    · cases h0
  · cases hc
set_option maxRecDepth 100000 in
set_option maxHeartbeats 2000000 in
theorem dopens_law (p : Par) (v : Value) (l : List Int) (k : Int) (w : World) (hp : p.ok) (h : Sl encU (fun _ => True) w v l) (hk : I64 k) :
    Calls Try.prog 3 #[p.v, v, .int .i64 k] w fun e' w' => e' = .returned (.bool true) ∧ w.grownBy w' none := by
  have H := Lib.hid h
  have HK := Lib.hid hk
  obtain ⟨A, c, rfl, hlc, hcm⟩ := h.form
  have HB0 : Hid (Bk (w.alloc (Obj.cells p.cells 24)) w.heap.size 24 p.cells) := Lib.hid (Bk.new w _ _)
  have HG0 : Hid (w.grownBy (w.alloc (Obj.cells p.cells 24)) none) := Lib.hid (World.grownBy_alloc w _ none)
  clear h hp hk
  by_cases hb : 1500 < l.length
  · have hb' : (1500 : Int) < (l.length : Int) := by omega
    go_enter Try.func3, Try.ntmps3
    go_wp2
    go_ret
    exact ⟨rfl, HG0.out⟩
  · have hb' : ¬ (1500 : Int) < (l.length : Int) := by omega
    have HSL : Hid (Sl encU (fun _ => True) (w.alloc (Obj.cells p.cells 24)) (.slice A l.length c) l) := Lib.hid (H.out.kept HG0.out)
    have HBY : Hid (l.length * 8 ≤ 140737488355328) := Lib.hid (by omega)
    have HLN : Hid (l.length ≤ 1500) := Lib.hid (by omega)
    go_enter Try.func3, Try.ntmps3
    go_wp2_with (at_builtin; refine wpList_copyG rfl (.tmp 31) (.tmp 32) rfl (E := encU) (Y := fun _ => True) el_u64 (by rw [World.size_alloc]; rfl) rfl HSL.out HBY.out (fun _ _ => trivial) (fun _ _ _ h => h) ?_)
    intro A1 c1 w1 hacc hg
    have HIN : Hid (Sl encU (fun _ => True) w1 (.slice A1 l.length c1) l) := Lib.hid hacc.sl
    have HNU : Hid (Sl encU (fun _ => True) w1 (.slice A l.length c) l) := Lib.hid (HSL.out.kept hg)
    have HG1 := hidTrans hg HG0
    have HST : Hid (w1.grownBy w1 none ∧ Bk w1 w.heap.size 24 p.cells) := Lib.hid ⟨World.grownBy.refl _ _, (bkGrown hg HB0).out⟩
    clear hacc hg HSL HB0
    go_wp2_with fail
    go_loopg [8] 2 (fun g s8 wx => ∃ r : Nat, r + g = 2 ∧ s8 = .int .i64 r ∧ Hid (w1.grownBy wx none ∧ Bk wx w.heap.size 24 p.cells))
    case atStart => exact ⟨0, by omega, rfl, HST⟩
    case round =>
      obtain ⟨r, hr, rfl, HX⟩ := hrel
      cases gk with
      | zero =>
        obtain rfl : r = 2 := by omega
        have HG := Lib.hid HX.out.1
        have HNE := Lib.hid (nums_eq _ _ l _ _ wr (HIN.out.kept HX.out.1) (HNU.out.kept HX.out.1))
        clear HX HST
        go_wp2_with fail
        refine HNE.out.mono ?_
        rintro e w2 ⟨rfl, n, rfl⟩
        go_wp2
        go_ret
        exact ⟨rfl, grownBy_drewN (HG1.out.trans HG.out) n⟩
      | succ gm =>
        have hrl : (r : Int) < 2 := by omega
        have HBr := Lib.hid HX.out.2
        have HGr := Lib.hid HX.out.1
        have hp0 := HX.out.2.prule
        have HLo := Lib.hid (opnM_long p l k)
        have HLc := Lib.hid (ocL_long p l)
        clear HX HST
        go_wp2_with fail
        refine (open_any p _ l k _ wr (HIN.out.kept HGr.out) HLN.out HK.out).mono ?_
        rintro e w2 ⟨vm, va, vb, rfl, hm, ha, hb2, hg⟩
        have HG2 : Hid (wr.grownBy w2 none) := Lib.hid hg
        have HM := Lib.hid hm
        have HA := Lib.hid ha
        have HB := Lib.hid hb2
        have HBp2 := Lib.hid (HBr.out.grown hg (by simp))
        have hp2 := HBp2.out.prule
        clear hm ha hb2 hg hp0
        go_wp2_with fail
        refine (ropen_any p _ l k _ w2 ((HNU.out.kept HGr.out).kept HG2.out) HLN.out HK.out).mono ?_
        rintro e w3 ⟨rm, ra, rb, rfl, hm, ha, hb2, hg⟩
        have HG3 : Hid (wr.grownBy w3 none) := Lib.hid (HG2.out.trans hg)
        have HM3 := Lib.hid (HM.out.kept hg)
        have HEM := Lib.hid (mats_eq vm rm _ _ _ w3 HM3.out.plain2 hm)
        have HEA := Lib.hid (fun n => shares_eq va ra _ _ _ (w3.drewN n) ((HA.out.kept hg).kept (grownBy_drewN (World.grownBy.refl w3 none) n)) (ha.kept (grownBy_drewN (World.grownBy.refl w3 none) n)))
        have HEB := Lib.hid (fun n => shares_eq vb rb _ _ _ (w3.drewN n) ((HB.out.kept hg).kept (grownBy_drewN (World.grownBy.refl w3 none) n)) (hb2.kept (grownBy_drewN (World.grownBy.refl w3 none) n)))
        have HBp3 := Lib.hid (HBp2.out.grown hg (by simp))
        have hp3 := HBp3.out.prule
        clear hm ha hb2 hg hp2 HM HA HB
        generalize opnE p l.length k = en at *
        go_wp2_with fail
        refine HEM.out.mono ?_
        rintro e w4 ⟨rfl, n4, rfl⟩
        go_wp2_with fail
        refine (HEA.out _).mono ?_
        rintro e w4 ⟨rfl, n5, rfl⟩
        go_wp2_with fail
        refine (HEB.out _).mono ?_
        rintro e w4 ⟨rfl, n6, rfl⟩
        obtain ⟨w4, hw4⟩ : ∃ w4, w4 = w3.drewN (n4 + n5 + n6) := ⟨_, rfl⟩
        have HG4 : Hid (wr.grownBy w4 none) := Lib.hid (by rw [hw4]; exact grownBy_drewN HG3.out _)
        have HM4 : Hid (Sl (encW (encW encU)) (fun g => wr.heap.size ≤ g) w4 vm (opnM p l k)) := Lib.hid (by rw [hw4]; exact HM3.out.kept (grownBy_drewN (World.grownBy.refl w3 none) _))
        have HBp4 : Hid (Bk w4 w.heap.size 24 p.cells) := Lib.hid (by rw [hw4]; exact HBp3.out.drewN _)
        have hp4 := HBp4.out.prule
        have hq4 : (w3.drewN (n4 + n5)).drewN n6 = w4 := by rw [hw4, World.drewN_drewN]
        clear HEM HEA HEB HM3 hp3
        rw [hq4]
        clear hw4 hq4
        go_wp2_with fail
        refine (openPairs_any p _ l _ w4 ((HIN.out.kept HGr.out).kept HG4.out) HLN.out).mono ?_
        rintro e w5 ⟨vl, rfl, hl5, hg⟩
        have HG5 : Hid (wr.grownBy w5 none) := Lib.hid (HG4.out.trans hg)
        have HBp5 := Lib.hid (HBp4.out.grown hg (by simp))
        have HM5 := Lib.hid (HM4.out.kept hg)
        have HL5 := Lib.hid hl5
        have hp5 := HBp5.out.prule
        clear hl5 hg hp4
        go_wp2_with fail
        refine (ropenPairs_any p _ l _ w5 ((HNU.out.kept HGr.out).kept HG5.out) HLN.out).mono ?_
        rintro e w6 ⟨rl, rfl, hl6, hg⟩
        have HG6 : Hid (wr.grownBy w6 none) := Lib.hid (HG5.out.trans hg)
        have HBp6 := Lib.hid (HBp5.out.grown hg (by simp))
        have HM6 := Lib.hid (HM5.out.kept hg)
        have HL6 := Lib.hid (HL5.out.kept hg)
        have HR6 := Lib.hid hl6
        have hp6 := HBp6.out.prule
        clear hl6 hg hp5
        generalize opE p l.length = en2 at *
        go_wp2_with fail
        refine (openComs_any p _ l _ w6 ((HIN.out.kept HGr.out).kept HG6.out) HLN.out).mono ?_
        rintro e w7 ⟨vc, rfl, hl7, hg⟩
        have HG7 : Hid (wr.grownBy w7 none) := Lib.hid (HG6.out.trans hg)
        have HBp7 := Lib.hid (HBp6.out.grown hg (by simp))
        have HM7 := Lib.hid (HM6.out.kept hg)
        have HL7 := Lib.hid (HL6.out.kept hg)
        have HR7 := Lib.hid (HR6.out.kept hg)
        have HC7 : Hid (Sl (encW encU) (fun g => wr.heap.size ≤ g) w7 vc (ocL p l)) := Lib.hid (hl7.more (fun g _ h => Nat.le_trans HG6.out.size h))
        have hp7 := HBp7.out.prule
        clear hl7 hg hp6
        go_wp2_with fail
        refine (ropenComs_any p _ l _ w7 ((HNU.out.kept HGr.out).kept HG7.out) HLN.out).mono ?_
        rintro e w8 ⟨rc, rfl, hl8, hg⟩
        have HG8 : Hid (wr.grownBy w8 none) := Lib.hid (HG7.out.trans hg)
        have HBp8 := Lib.hid (HBp7.out.grown hg (by simp))
        have HM8 := Lib.hid (HM7.out.kept hg)
        have HC8 := Lib.hid (HC7.out.kept hg)
        have HE1 := Lib.hid (same_eq vl rl _ _ _ w8 (HL7.out.kept hg) (HR7.out.kept hg))
        have HE2 := Lib.hid (fun n => lists_eq vc rc _ _ _ (w8.drewN n) (HC8.out.plain.kept (grownBy_drewN (World.grownBy.refl w8 none) n)) (hl8.kept (grownBy_drewN (World.grownBy.refl w8 none) n)))
        have hp8 := HBp8.out.prule
        clear hl8 hg hp7 HM4 HM5 HM6 HM7 HL5 HL6 HL7 HR6 HR7 HC7
        generalize ocE p l.length = en3 at *
        go_wp2_with fail
        refine HE1.out.mono ?_
        rintro e w9 ⟨rfl, n9, rfl⟩
        go_wp2_with fail
        refine (HE2.out _).mono ?_
        rintro e w9 ⟨rfl, n10, rfl⟩
        obtain ⟨wS, hwS⟩ : ∃ wS, wS = w8.drewN (n9 + n10) := ⟨_, rfl⟩
        have HGS : Hid (wr.grownBy wS none) := Lib.hid (by rw [hwS]; exact grownBy_drewN HG8.out _)
        have HMS : Hid (Sl (encW (encW encU)) (fun g => wr.heap.size ≤ g) wS vm (opnM p l k)) := Lib.hid (by rw [hwS]; exact HM8.out.kept (grownBy_drewN (World.grownBy.refl w8 none) _))
        have HCS : Hid (Sl (encW encU) (fun g => wr.heap.size ≤ g) wS vc (ocL p l)) := Lib.hid (by rw [hwS]; exact HC8.out.kept (grownBy_drewN (World.grownBy.refl w8 none) _))
        have hqS : (w8.drewN n9).drewN n10 = wS := by rw [hwS, World.drewN_drewN]
        clear HE1 HE2 hp8 HM8 HC8 HBp8 HBp7 HBp6 HBp5 HBp4 HBp3 HBp2 HG2 HG3 HG4 HG5 HG6 HG7 HG8
        rw [hqS]
        clear hwS hqS
        have HS0 : Hid (Sp wr.heap.size wS wS) := Lib.hid (Sp.refl _ _)
        generalize opnM p l k = M at *
        generalize ocL p l = C at *
        obtain ⟨Am, cm, em, _, _⟩ := HMS.out.form
        obtain ⟨Ac, cc, ec, _, _⟩ := HCS.out.form
        subst em ec
        go_wp2_with fail
        go_loopg [25] M.length (fun g s25 wx => ∃ s : Nat, s + g = M.length ∧ s25 = .int .i64 s ∧ Hid (Sp wr.heap.size wS wx))
        case atStart => exact ⟨0, by omega, rfl, HS0⟩
        case round =>
          rename World => wy
          obtain ⟨s, hs, rfl, HSP⟩ := hrel
          cases gk with
          | zero =>
            obtain rfl : s = M.length := by omega
            go_wp2_with fail
            go_loopg [27] C.length (fun g s27 wx => ∃ s : Nat, s + g = C.length ∧ s27 = .int .i64 s ∧ Hid (Sp wr.heap.size wS wx))
            case atStart => exact ⟨0, by omega, rfl, HSP⟩
            case round =>
              rename World => wz
              obtain ⟨s, hs, rfl, HSQ⟩ := hrel
              cases gk with
              | zero =>
                obtain rfl : s = C.length := by omega
                have HFIN : Hid (w1.grownBy wz none ∧ Bk wz w.heap.size 24 p.cells) := Lib.hid ⟨HGr.out.trans (HSQ.out.grown HGS.out), HBr.out.grown (HSQ.out.grown HGS.out) (by simp)⟩
                clear HSP HSQ HS0
                go_wp2_with fail
                go_roundg gm
                case measure => omega
                case rel => exact ⟨r + 1, by omega, by go_num, HFIN⟩
              | succ n =>
                have hsn : (s : Int) < (C.length : Int) := by omega
                have hsN : s < C.length := by omega
                obtain ⟨gc, oc, cc', u, e1, _, _, hcu, hsu, hwu⟩ := HCS.out.atW hsN
                injection e1 with e11 e12 e13
                subst e11 e13
                have hlen := HLc.out C[s] (List.getElem_mem hsN)
                obtain ⟨gn, on, cn, x, rfl, hgn, hcx, hfx⟩ := first_of hsu hwu hlen
                have c0 := HSQ.out.head hcu
                obtain ⟨y, c1⟩ := HSQ.out.num hcx
                have f0 := (HSQ.out.frz gn on).trans (hfx on)
                have HNX : Hid (Sp wr.heap.size wS (wz.setCell ⟨gn, on, none⟩ (.int .u64 99))) := Lib.hid (HSQ.out.set hgn hcx)
                generalize C[s].length = len at *
                have hlen0 : (0 : Int) < (len : Int) := by omega
                clear hcu hsu hwu hcx hfx e12 HSP HSQ HS0
                go_wp2_with fail
                go_roundg n
                case measure => omega
                case rel => exact ⟨s + 1, by omega, by go_num, HNX⟩
          | succ n =>
            have hsn : (s : Int) < (M.length : Int) := by omega
            have hsN : s < M.length := by omega
            obtain ⟨gm1, om, cm', u, e1, _, _, hcu, hsu, hwu⟩ := HMS.out.atW hsN
            injection e1 with e11 e12 e13
            subst e11 e13
            have HLf := Lib.hid (HLo.out M[s] (List.getElem_mem hsN))
            have HRW := Lib.hid hsu
            obtain ⟨Ar, cr, er, _, _⟩ := hsu.form
            subst er
            have HC0 := Lib.hid hcu
            obtain ⟨R, hR⟩ : ∃ R, R = M[s] := ⟨_, rfl⟩
            rw [← hR] at HLf HRW HC0
            rw [← hR] at hcu hsu hwu
            clear hR hcu hsu hwu e12
            have d0 := HSP.out.head HC0.out
            have hRb := HRW.out.bound
            go_wp2_with fail
            go_loopg [26] R.length (fun g s26 wx => ∃ t : Nat, t + g = R.length ∧ s26 = .int .i64 t ∧ Hid (Sp wr.heap.size wS wx))
            case atStart => exact ⟨0, by omega, rfl, HSP⟩
            case round =>
              rename World => wz
              obtain ⟨t, ht, rfl, HSQ⟩ := hrel
              have d1 := HSQ.out.head HC0.out
              cases gk with
              | zero =>
                obtain rfl : t = R.length := by omega
                clear HSP d0
                go_wp2_with fail
                go_roundg n
                case measure => omega
                case rel => exact ⟨s + 1, by omega, by go_num, HSQ⟩
              | succ n2 =>
                have htn : (t : Int) < (R.length : Int) := by omega
                have htN : t < R.length := by omega
                obtain ⟨gc, oc, cc', u, e1, _, _, hcu, hsu, hwu⟩ := HRW.out.atW htN
                injection e1 with e11 e12 e13
                subst e11 e13
                have hlen := HLf.out R[t] (List.getElem_mem htN)
                obtain ⟨gn, on, cn, x, rfl, hgn, hcx, hfx⟩ := first_of hsu hwu hlen
                have c0 := HSQ.out.head hcu
                obtain ⟨y, c1⟩ := HSQ.out.num hcx
                have f0 := (HSQ.out.frz gn on).trans (hfx on)
                have HNX : Hid (Sp wr.heap.size wS (wz.setCell ⟨gn, on, none⟩ (.int .u64 99))) := Lib.hid (HSQ.out.set hgn hcx)
                generalize R[t].length = len at *
                have hlen0 : (0 : Int) < (len : Int) := by omega
                clear hcu hsu hwu hcx hfx e12 HSP HSQ d0
                go_wp2_with fail
                go_roundg n2
                case measure => omega
                case rel => exact ⟨t + 1, by omega, by go_num, HNX⟩
end Go.Proofs.Ytoibeeecmkpdpaa
