/- consistorylaw02.GroupAt, walked. -/
import Derived.Test.YtnjbigbiclfcoaaDoorWorks02
import Derived.Test.YtnjbigbiclfcoaaDoorGrpM
import Derived.Test.YtnjbigbiclfcoaaDoorGrpC
import Derived.Test.YtnjbigbiclfcoaaDoorAcc
import Derived.Test.YtnjbigbiclfcoaaDoorQuietLast
import Derived.Deep.RegionHeld3
import Derived.Deep.LoopGhost
import Derived.Deep.DeepCutAuto
import Derived.Deep.CutBlock
namespace Go.Proofs.YtnjbigbiclfcoaaDoor
open Go.RowKit

theorem elem_u64' : ElemOk Tryd.prog 29 22 encU.size 8 := ElemOk.mk' (by decide) Tryd.underlying29 u64_info rfl
theorem valGo_step (Q i : Int) (l : List (Int × Int)) (j : Nat) (h : j < l.length) (v : Int × Int) (e : Int) : valGo Q i (l.drop j) v e = valGo Q i (l.drop (j + 1)) (addI v.1 (mulI l[j].1 e Q) Q, addI v.2 (mulI l[j].2 e Q) Q) (mulI e i Q) := by
  rw [List.drop_eq_getElem_cons h]
  rfl
theorem map_take_snoc {α β : Type} (f : α → β) (l : List α) (j : Nat) (h : j < l.length) : (l.take (j + 1)).map f = (l.take j).map f ++ [f l[j]] := by
  rw [List.take_succ_eq_append_getElem h, List.map_append]
  rfl
theorem commit_U64 (p : Par) (x : Int × Int) : U64 (commitI p x) := timesI_U64 _ _
set_option maxHeartbeats 1000000 in
theorem gat_law (p : Par) (v : Value) (l : List (Int × Int)) (i : Int) (w : World) (hp : p.ok) (h : Sl encP (fun _ => True) w v l) (hi : U64 i) (hT : TabsAt w) :
    Calls Tryd.prog 8 #[p.v, v, .int .u64 i] w fun e' w' => e' = .returned (.bool true) ∧ w.grownBy w' none := by
  have HT := Lib.hid hT
  have HP := Lib.hid hp
  have HI := Lib.hid hi
  have HL := Lib.hid h
  obtain ⟨i0, i1⟩ := hi
  obtain ⟨A, c, rfl, hl1, hl2⟩ := h.form
  clear hT hp h
  have HB0 : Hid (Bk (w.alloc (Obj.cells p.cells 24)) w.heap.size 24 p.cells) := Lib.hid (Bk.new w _ _)
  have HG0 : Hid (w.grownBy (w.alloc (Obj.cells p.cells 24)) none) := Lib.hid (World.grownBy_alloc w _ none)
  have HM := Lib.hid (fun (w' : World) (hg : w.grownBy w' none) => may_any p w' HP.out (HT.out.kept hg))
  have HW := Lib.hid (fun (w' : World) (hg : w.grownBy w' none) => works02_any w' (HT.out.kept hg))
  by_cases hb : 20 < l.length
  · have hb' : decide ((20 : Int) < (l.length : Int)) = true := by simp; omega
    cases hm : mayP p with
    | false =>
      rw [hm] at HM
      clear hm
      go_enter Tryd.func8, Tryd.ntmps8
      go_wp2_with fail
      refine (HW.out _ HG0.out).mono ?_
      rintro e' w1 ⟨rfl, hg⟩
      have HG1 := hidTrans hg HG0
      have hp1 := (bkGrown hg HB0).out.prule
      clear hg
      go_wp2_with fail
      refine (HM.out _ HG1.out).mono ?_
      rintro e' w2 ⟨rfl, hg⟩
      have HG2 := hidTrans hg HG1
      clear hg
      go_wp2_with fail
      refine (HW.out _ HG2.out).mono ?_
      rintro e' w3 ⟨rfl, hg⟩
      have HG3 := hidTrans hg HG2
      clear hg
      go_wp2
      go_ret
      exact ⟨rfl, HG3.out⟩
    | true =>
      rw [hm] at HM
      clear hm
      go_enter Tryd.func8, Tryd.ntmps8
      go_wp2_with fail
      refine (HW.out _ HG0.out).mono ?_
      rintro e' w1 ⟨rfl, hg⟩
      have HG1 := hidTrans hg HG0
      have hp1 := (bkGrown hg HB0).out.prule
      clear hg
      go_wp2_with fail
      refine (HM.out _ HG1.out).mono ?_
      rintro e' w2 ⟨rfl, hg⟩
      have HG2 := hidTrans hg HG1
      clear hg
      go_wp2_with fail
      refine (HW.out _ HG2.out).mono ?_
      rintro e' w3 ⟨rfl, hg⟩
      have HG3 := hidTrans hg HG2
      clear hg
      go_wp2
      go_ret
      exact ⟨rfl, HG3.out⟩
  · have hb' : decide ((20 : Int) < (l.length : Int)) = false := by simp; omega
    cases hm : mayP p with
    | false =>
      rw [hm] at HM
      clear hm
      go_enter Tryd.func8, Tryd.ntmps8
      go_wp2_with fail
      refine (HW.out _ HG0.out).mono ?_
      rintro e' w1 ⟨rfl, hg⟩
      have HG1 := hidTrans hg HG0
      have hp1 := (bkGrown hg HB0).out.prule
      clear hg
      go_wp2_with fail
      refine (HM.out _ HG1.out).mono ?_
      rintro e' w2 ⟨rfl, hg⟩
      have HG2 := hidTrans hg HG1
      clear hg
      go_wp2_with fail
      refine (HW.out _ HG2.out).mono ?_
      rintro e' w3 ⟨rfl, hg⟩
      have HG3 := hidTrans hg HG2
      clear hg
      go_wp2
      go_ret
      exact ⟨rfl, HG3.out⟩
    | true =>
      have HGd := Lib.hid (good_of hm)
      have hq0 : ¬ p.Q = 0 := by have := HGd.out.Q2; omega
      have hq1 : 2 ≤ p.Q := HGd.out.Q2
      rw [hm] at HM
      clear hm
      go_enter Tryd.func8, Tryd.ntmps8
      go_wp2_with fail
      refine (HW.out _ HG0.out).mono ?_
      rintro e' w1 ⟨rfl, hg⟩
      have HG1 := hidTrans hg HG0
      have HB1 := bkGrown hg HB0
      have hp1 := HB1.out.prule
      clear hg
      go_wp2_with fail
      refine (HM.out _ HG1.out).mono ?_
      rintro e' w2 ⟨rfl, hg⟩
      have HG2 := hidTrans hg HG1
      have HB2 := bkGrown hg HB1
      clear hg hp1
      have hs2 := HB2.out.lt
      have HBv : Hid (Bk (w2.alloc (Obj.cells #[.int .u64 0, .int .u64 0] 35)) w2.heap.size 35 #[.int .u64 0, .int .u64 0]) := Lib.hid (Bk.new w2 _ _)
      have HBp : Hid (Bk (w2.alloc (Obj.cells #[.int .u64 0, .int .u64 0] 35)) w.heap.size 24 p.cells) := Lib.hid (HB2.out.alloc _)
      have HG3 : Hid (w.grownBy (w2.alloc (Obj.cells #[.int .u64 0, .int .u64 0] 35)) none) := Lib.hid (HG2.out.trans (World.grownBy_alloc w2 _ none))
      have HQd := Lib.hid (And.intro hq0 hq1)
      clear HB2 HB1 HG1 HG2 HB0 HG0
      go_wp2_with fail
      have HST : Hid (U64 1 ∧ U64 0 ∧ U64 0 ∧ Acc encU w.heap.size 22 (fun g => w.heap.size ≤ g ∧ g ≠ w2.heap.size) (w2.alloc (Obj.cells #[.int .u64 0, .int .u64 0] 35)) (.slice none 0 0) ((l.take 0).map (commitI p)) ∧
          Bk (w2.alloc (Obj.cells #[.int .u64 0, .int .u64 0] 35)) w2.heap.size 35 #[.int .u64 0, .int .u64 0] ∧ Bk (w2.alloc (Obj.cells #[.int .u64 0, .int .u64 0] 35)) w.heap.size 24 p.cells ∧
          w.grownBy (w2.alloc (Obj.cells #[.int .u64 0, .int .u64 0] 35)) none ∧ valGo p.Q i (l.drop 0) (0, 0) 1 = valGo p.Q i l (0, 0) 1) :=
        Lib.hid ⟨by decide, by decide, by decide, Acc.nil _ _ _ _ _, HBv.out, HBp.out, HG3.out, rfl⟩
      have HLU : Hid (∀ y ∈ l, 0 ≤ y.1 ∧ 0 ≤ y.2) := Lib.hid (fun y hy => by
        obtain ⟨k, hk, rfl⟩ := List.mem_iff_getElem.1 hy
        obtain ⟨_, _, _, _, _, _, _, _, a1, a2⟩ := HL.out.atP hk
        exact ⟨a1.1, a2.1⟩)
      have htm : Hid (i.tmod p.Q = i % p.Q) := Lib.hid (Int.tmod_eq_emod_of_nonneg i0)
      have HTM : Hid (U64 (i.tmod p.Q)) := Lib.hid (by rw [htm.out]; exact emod_U64 i p.Q HI.out (by omega))
      clear HBv HBp HG3 hq0 hq1
      have HLV : Hid (w.heap.size < w2.heap.size) := Lib.hid hs2
      generalize w2.heap.size = gv at *
      go_loopg [7, 9, 10] l.length (fun g s7 s9 s10 wx => ∃ (j : Nat) (vS vB e : Int), j + g = l.length ∧ s10 = .int .i64 j ∧ s9 = .int .u64 e ∧ Hid (U64 e ∧ U64 vS ∧ U64 vB ∧ Acc encU w.heap.size 22 (fun g => w.heap.size ≤ g ∧ g ≠ gv) wx s7 ((l.take j).map (commitI p)) ∧
          Bk wx gv 35 #[.int .u64 vS, .int .u64 vB] ∧ Bk wx w.heap.size 24 p.cells ∧ w.grownBy wx none ∧ valGo p.Q i (l.drop j) (vS, vB) e = valGo p.Q i l (0, 0) 1))
      case atStart => exact ⟨0, 0, 0, 1, by omega, rfl, rfl, HST⟩
      case round =>
        obtain ⟨j, vS, vB, e, hj, rfl, rfl, HX⟩ := hrel
        cases gk with
        | zero =>
          obtain rfl : j = l.length := by omega
          obtain ⟨he, hvs, hvb, hacc, hbv, hbp, hg, hval⟩ := HX.out
          rw [List.take_length] at hacc
          rw [List.drop_length] at hval
          have hval' : ((vS, vB) : Int × Int) = valGo p.Q i l (0, 0) 1 := hval
          have HE1 : Hid ((atI p (l.map (commitI p)) i == commitI p (vS, vB)) = true) := Lib.hid (by rw [hval', at_commits HGd.out i i0 l HLU.out]; simp)
          have HE2 : Hid ((atI p (l.map (commitI p)) (i.tmod p.Q) == commitI p (vS, vB)) = true) := Lib.hid (by rw [htm.out, at_mod]; exact HE1.out)
          have HVS := Lib.hid hvs
          have HVB := Lib.hid hvb
          have HSL : Hid (Sl encU (fun g => w.heap.size ≤ g ∧ g ≠ gv) wr u7 (l.map (commitI p))) := Lib.hid hacc.sl
          obtain ⟨A7, c7, e7, _, _⟩ := hacc.sl.form
          rw [List.length_map] at e7
          subst e7
          have HAT : Hid (∀ w', wr.grownBy w' none → Calls Tryd.prog 18 #[p.v, .slice A7 l.length c7, .int .u64 i] w' fun e' w'' => e' = .returned (.int .u64 (atI p (l.map (commitI p)) i)) ∧ w'.grownBy w'' none) := Lib.hid (fun w' hw => at_all p _ _ i _ w' (HSL.out.kept hw) HI.out)
          have HAM : Hid (∀ w', wr.grownBy w' none → Calls Tryd.prog 18 #[p.v, .slice A7 l.length c7, .int .u64 (i.tmod p.Q)] w' fun e' w'' => e' = .returned (.int .u64 (atI p (l.map (commitI p)) (i.tmod p.Q))) ∧ w'.grownBy w'' none) := Lib.hid (fun w' hw => at_all p _ _ _ _ w' (HSL.out.kept hw) HTM.out)
          have HCM := Lib.hid (fun w' => commit_any p (vS, vB) w' HP.out HVS.out HVB.out)
          have HGx : Hid (wr.grownBy wr.drew none) := Lib.hid (grownBy_drewN (World.grownBy.refl wr none) 1)
          have HBx : Hid (Bk wr.drew w.heap.size 24 p.cells) := Lib.hid (hbp.drewN 1)
          have HVx : Hid (Bk wr.drew gv 35 #[.int .u64 vS, .int .u64 vB]) := Lib.hid (hbv.drewN 1)
          have HG := Lib.hid hg
          have hpx := hbp.prule
          have hvx := hbv.rule
          have hsx := hbp.lt
          have lvx := hbv.lt
          have q0 := HQd.out.1
          have q1 := HQd.out.2
          have e1 := HE1.out
          have e2 := HE2.out
          clear HX he hvs hvb hacc hbv hbp hg hval hval'
          generalize atI p (l.map (commitI p)) i = r1 at *
          generalize commitI p (vS, vB) = r2 at *
          go_wp2_with fail
          go_region_held3 (fun w' => (∀ o, w'.cell? ⟨w.heap.size, o, none⟩ = (#[.int .u64 p.P, .int .u64 p.Q, .int .u64 p.G, .int .u64 p.H, .int .i64 p.Nodes, .int .i64 p.N, .int .i64 p.T, .int .i64 p.K, .int .i64 p.D, .int .i64 p.R, .int .i64 p.M, .int .i64 p.X] : Array Value)[o]?) ∧ (∀ o, w'.cell? ⟨gv, o, none⟩ = (#[.int .u64 vS, .int .u64 vB] : Array Value)[o]?))
            (first | (exact ⟨by assumption, by assumption⟩) | (refine ⟨?_, ?_⟩ <;> (first | assumption | (refine rule_alloc ?_ ?_ _ <;> assumption))))
            (first
            | (go_at_call 18; (with_reducible refine (HAT.out _ HGx.out).mono ?_); rintro e' w' ⟨rfl, hg⟩; have HGx := hidTrans hg HGx; have HBx := bkGrown hg HBx; have HVx := bkGrown hg HVx; have hpx := HBx.out.prule; have hvx := HVx.out.rule; have hsx := HBx.out.lt; have lvx := HVx.out.lt; clear hg)
            | (go_at_call 18; (with_reducible refine (HAM.out _ HGx.out).mono ?_); rintro e' w' ⟨rfl, hg⟩; have HGx := hidTrans hg HGx; have HBx := bkGrown hg HBx; have HVx := bkGrown hg HVx; have hpx := HBx.out.prule; have hvx := HVx.out.rule; have hsx := HBx.out.lt; have lvx := HVx.out.lt; clear hg)
            | (go_at_call 17; (with_reducible refine (HCM.out _).mono ?_); rintro e' w' ⟨rfl, hg⟩; have HGx := hidTrans hg HGx; have HBx := bkGrown hg HBx; have HVx := bkGrown hg HVx; have hpx := HBx.out.prule; have hvx := HVx.out.rule; have hsx := HBx.out.lt; have lvx := HVx.out.lt; clear hg))
          go_wp2
          go_ret
          exact ⟨rfl, HG.out.trans HGx.out⟩
        | succ k =>
          have hjn : (j : Int) < (l.length : Int) := by omega
          have hjN : j < l.length := by omega
          obtain ⟨he, hvs, hvb, hacc, hbv, hbp, hg, hval⟩ := HX.out
          obtain ⟨g, o, c', e1, _, _, hc0, hc1, hy1, hy2⟩ := (HL.out.kept hg).atP hjN
          injection e1 with e11 e12 e13
          subst e11 e13
          have HC : Hid (∀ w', w.grownBy w' none → w'.cell? ⟨g, o + j * 2, none⟩ = some (.int .u64 l[j].1) ∧ w'.cell? ⟨g, o + j * 2 + 1, none⟩ = some (.int .u64 l[j].2)) := Lib.hid (fun w' hw => by
            obtain ⟨g', o', c'', e'', _, _, hc', hc'', _⟩ := (HL.out.kept hw).atP hjN
            injection e'' with e1 e2 e3
            injection e1 with e1
            injection e1 with e1 e1'
            subst e1 e1'
            exact ⟨hc', hc''⟩)
          rw [valGo_step p.Q i l j hjN] at hval
          have HSn := Lib.hid (map_take_snoc (commitI p) l j hjN)
          have HV := Lib.hid hval
          have HE := Lib.hid he
          have HVS := Lib.hid hvs
          have HVB := Lib.hid hvb
          have HAC := Lib.hid hacc
          have HBv := Lib.hid hbv
          have HBp := Lib.hid hbp
          have HG := Lib.hid hg
          have HY1 := Lib.hid hy1
          have HY2 := Lib.hid hy2
          have hp := hbp.prule
          have hsp := hbp.lt
          have HLEN : Hid ((((l.take j).map (commitI p)).length + 1) * 8 ≤ 140737488355328) := Lib.hid (by simp; omega)
          have HGV : Hid (w.heap.size ≤ gv) := Lib.hid (Nat.le_of_lt HLV.out)
          have HNE : Hid (¬ gv = w.heap.size) := Lib.hid (by have := HLV.out; omega)
          generalize l[j] = y at *
          have HCU := Lib.hid (commit_U64 p y)
          clear HX he hvs hvb hacc hbv hbp hg hval hy1 hy2 e12
          go_wp2_with fail
          go_region_held3 (fun w' => (∀ o, w'.cell? ⟨w.heap.size, o, none⟩ = (#[.int .u64 p.P, .int .u64 p.Q, .int .u64 p.G, .int .u64 p.H, .int .i64 p.Nodes, .int .i64 p.N, .int .i64 p.T, .int .i64 p.K, .int .i64 p.D, .int .i64 p.R, .int .i64 p.M, .int .i64 p.X] : Array Value)[o]?) ∧ (w'.cell? ⟨g, o + j * 2, none⟩ = some (.int .u64 y.1) ∧ w'.cell? ⟨g, o + j * 2 + 1, none⟩ = some (.int .u64 y.2)))
            (first | (exact ⟨by assumption, by assumption⟩) | (exact ⟨by assumption, by assumption, by assumption⟩) | (refine ⟨rule_alloc ?_ ?_ _, ?_⟩ <;> assumption))
            (first
            | (refine step_push rfl (.tmp 30) (.tmp 37) rfl elem_u64' HA2.out rfl rfl ⟨rfl, HCU.out⟩ HLEN.out HS2.out HN2.out ?_; intro v' w3 hacc3 hg3 hm3; have HG3 : Hid (w.grownBy w3 none) := Lib.hid (grown_up HG2.out hg3 (fun g e => (HA2.out.lt g e).1)); have HBp3 : Hid (Bk w3 w.heap.size 24 p.cells) := Lib.hid (HBp2.out.grown hg3 (Ne.symm (HA2.out.ne_bk HBp2.out (by decide)))); have HBv3 : Hid (Bk w3 gv 35 #[.int .u64 vS, .int .u64 vB]) := Lib.hid (HBv2.out.grown hg3 (Ne.symm (HA2.out.ne_bk HBv2.out (by decide)))); have HA3 := Lib.hid hacc3; have hp3 := HBp3.out.prule; have hcc3 := HC.out w3 HG3.out; clear hacc3 hg3 hm3)
            | (go_at_call 17; (with_reducible refine (commit_any p y _ HP.out HY1.out HY2.out).mono ?_); rintro e' w2 ⟨rfl, hg2⟩; have HG2 : Hid (w.grownBy w2 none) := Lib.hid ((grownBy_drewN HG.out 1).trans hg2); have HA2 : Hid (Acc encU w.heap.size 22 (fun g => w.heap.size ≤ g ∧ g ≠ gv) w2 u7 ((l.take j).map (commitI p))) := Lib.hid ((HAC.out.kept (grownBy_drewN (World.grownBy.refl wr none) 1)).kept hg2); have HBp2 := bkGrown hg2 (Lib.hid (HBp.out.drewN 1)); have HBv2 := bkGrown hg2 (Lib.hid (HBv.out.drewN 1)); have HS2 : Hid (w.heap.size ≤ w2.heap.size) := Lib.hid HG2.out.size; have HN2 : Hid (∀ g, w2.heap.size ≤ g → w.heap.size ≤ g ∧ g ≠ gv) := Lib.hid (fun g h => ⟨Nat.le_trans HG2.out.size h, fun e => by have := HBv2.out.lt; omega⟩); have hp2 := HBp2.out.prule; have hs3 := HBp2.out.lt; have hcc2 := HC.out w2 HG2.out; have hcc2' := HC.out (w2.alloc (Obj.cells #[.int .u64 (commitI p y)] 22)) (HG2.out.trans (World.grownBy_alloc w2 _ none)); clear hg2))
          go_wp2_with fail
          clear hp3 hcc3 hcc2 hcc2' hp2 hs3 hp hsp hc0 hc1
          have HM1 := Lib.hid (mulI_U64 y.1 e p.Q)
          have HM2 := Lib.hid (mulI_U64 y.2 e p.Q)
          have c0 : w3.cell? ⟨w.heap.size, 1, none⟩ = some (.int .u64 p.Q) := HBp3.out.cell 1
          have c1 : w3.cell? ⟨gv, 0, none⟩ = some (.int .u64 vS) := HBv3.out.cell 0
          have c2 := (HC.out w3 HG3.out).1
          have f0 := HBv3.out.free 0
          refine wp_region_quiet_last 15 (by kernel_rfl) (by kernel_rfl) ?_
          repeat (quiet_step ((first | (go_at_call 20; exact Calls.quiet_of (mul_any y.1 e p.Q _ HY1.out HE.out)) | (go_at_call 19; exact Calls.quiet_of (add_any vS (mulI y.1 e p.Q) p.Q _ HVS.out HM1.out)))))
          refine wpQuiet_nil ?_
          intro _ hw'
          obtain ⟨nq, hw''⟩ := hw'
          subst hw''
          have c3 : (w3.drewN nq).cell? ⟨gv, 0, none⟩ = some (.int .u64 vS) := c1
          go_wp2_with fail
          obtain ⟨w4, hw4⟩ : ∃ w4, w4 = (w3.drewN nq).setCell ⟨gv, 0, none⟩ (.int .u64 (addI vS (mulI y.1 e p.Q) p.Q)) := ⟨_, rfl⟩
          rw [← hw4]
          have hgv : (w3.drewN nq).grownBy w4 (some gv) := by rw [hw4]; exact grownBy_set (World.grownBy.refl _ (some gv)) 0 _
          have HGR4 : Hid (w3.grownBy w4 (some gv)) := Lib.hid ((grownBy_drewN (World.grownBy.refl w3 (some gv)) nq).trans hgv)
          have HG4 : Hid (w.grownBy w4 none) := Lib.hid (grown_up HG3.out HGR4.out (fun g e => by injection e with e; subst e; exact HGV.out))
          have HBp4 : Hid (Bk w4 w.heap.size 24 p.cells) := Lib.hid (HBp3.out.grown HGR4.out (fun e => by injection e with e; exact HNE.out e.symm))
          have HBv4 : Hid (Bk w4 gv 35 #[.int .u64 (addI vS (mulI y.1 e p.Q) p.Q), .int .u64 vB]) := Lib.hid (by rw [hw4]; exact (HBv3.out.drewN nq).set 0 _)
          have HA4 := Lib.hid (HA3.out.keep HGR4.out (fun g hg e => by injection e with e; exact hg.2 e))
          clear hgv hw4 c0 c1 c2 c3 f0
          have c0 : w4.cell? ⟨w.heap.size, 1, none⟩ = some (.int .u64 p.Q) := HBp4.out.cell 1
          have c1 : w4.cell? ⟨gv, 1, none⟩ = some (.int .u64 vB) := HBv4.out.cell 1
          have c2 := (HC.out w4 HG4.out).2
          have f0 := HBv4.out.free 1
          refine wp_region_quiet_last 15 (by kernel_rfl) (by kernel_rfl) ?_
          repeat (quiet_step ((first | (go_at_call 20; exact Calls.quiet_of (mul_any y.2 e p.Q _ HY2.out HE.out)) | (go_at_call 19; exact Calls.quiet_of (add_any vB (mulI y.2 e p.Q) p.Q _ HVB.out HM2.out)))))
          refine wpQuiet_nil ?_
          intro _ hw'
          obtain ⟨nr, hw''⟩ := hw'
          subst hw''
          have c3 : (w4.drewN nr).cell? ⟨gv, 1, none⟩ = some (.int .u64 vB) := c1
          have c4 : (w4.drewN nr).cell? ⟨w.heap.size, 1, none⟩ = some (.int .u64 p.Q) := c0
          have n4 : ¬ gv = w.heap.size := fun e => HNE.out e
          go_wp2_with fail
          refine (mul_any e i p.Q _ HE.out HI.out).mono ?_
          rintro e' w' ⟨rfl, n', rfl⟩
          have HGR5 : Hid (w4.grownBy (((w4.drewN nr).setCell ⟨gv, 1, none⟩ (.int .u64 (addI vB (mulI y.2 e p.Q) p.Q))).drewN n') (some gv)) := Lib.hid (grownBy_drewN (grownBy_set (grownBy_drewN (World.grownBy.refl w4 (some gv)) nr) 1 _) n')
          have HFIN : Hid (U64 (mulI e i p.Q) ∧ U64 (addI vS (mulI y.1 e p.Q) p.Q) ∧ U64 (addI vB (mulI y.2 e p.Q) p.Q) ∧ Acc encU w.heap.size 22 (fun g => w.heap.size ≤ g ∧ g ≠ gv) (((w4.drewN nr).setCell ⟨gv, 1, none⟩ (.int .u64 (addI vB (mulI y.2 e p.Q) p.Q))).drewN n') v' ((l.take (j + 1)).map (commitI p)) ∧
              Bk (((w4.drewN nr).setCell ⟨gv, 1, none⟩ (.int .u64 (addI vB (mulI y.2 e p.Q) p.Q))).drewN n') gv 35 #[.int .u64 (addI vS (mulI y.1 e p.Q) p.Q), .int .u64 (addI vB (mulI y.2 e p.Q) p.Q)] ∧ Bk (((w4.drewN nr).setCell ⟨gv, 1, none⟩ (.int .u64 (addI vB (mulI y.2 e p.Q) p.Q))).drewN n') w.heap.size 24 p.cells ∧
              w.grownBy (((w4.drewN nr).setCell ⟨gv, 1, none⟩ (.int .u64 (addI vB (mulI y.2 e p.Q) p.Q))).drewN n') none ∧ valGo p.Q i (l.drop (j + 1)) (addI vS (mulI y.1 e p.Q) p.Q, addI vB (mulI y.2 e p.Q) p.Q) (mulI e i p.Q) = valGo p.Q i l (0, 0) 1) :=
            Lib.hid ⟨mulI_U64 _ _ _, addI_U64 _ _ _, addI_U64 _ _ _, by rw [HSn.out]; exact HA4.out.keep HGR5.out (fun g hg e => by injection e with e; exact hg.2 e), ((HBv4.out.drewN nr).set 1 _).drewN n', HBp4.out.grown HGR5.out (fun e => by injection e with e; exact HNE.out e.symm), grown_up HG4.out HGR5.out (fun g e => by injection e with e; subst e; exact HGV.out), HV.out⟩
          go_wp2
          go_roundg k
          case measure => omega
          case rel => exact ⟨j + 1, _, _, _, by omega, by go_num, rfl, HFIN⟩
end Go.Proofs.YtnjbigbiclfcoaaDoor
