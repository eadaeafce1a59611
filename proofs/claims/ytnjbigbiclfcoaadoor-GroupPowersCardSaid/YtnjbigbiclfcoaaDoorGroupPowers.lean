/- consistorylaw02.GroupPowers, walked. -/
import Derived.Test.YtnjbigbiclfcoaaDoorWorks02
import Derived.Test.YtnjbigbiclfcoaaDoorGrpM
import Derived.Test.YtnjbigbiclfcoaaDoorGrpC
namespace Go.Proofs.YtnjbigbiclfcoaaDoor
open Go.RowKit

set_option maxHeartbeats 1000000 in
theorem gpowers_law (p : Par) (a e f : Int) (w : World) (hp : p.ok) (ha : U64 a) (he : U64 e) (hf : U64 f) (hT : TabsAt w) :
    Calls Tryd.prog 6 #[p.v, .int .u64 a, .int .u64 e, .int .u64 f] w fun e' w' => e' = .returned (.bool true) ∧ w.grownBy w' none := by
  have HT := Lib.hid hT
  have HP := Lib.hid hp
  have HA := Lib.hid ha
  have HE := Lib.hid he
  have HF := Lib.hid hf
  obtain ⟨f0, f1⟩ := he
  clear hT hp ha hf
  have HB0 : Hid (Bk (w.alloc (Obj.cells p.cells 24)) w.heap.size 24 p.cells) := Lib.hid (Bk.new w _ _)
  have HG0 : Hid (w.grownBy (w.alloc (Obj.cells p.cells 24)) none) := Lib.hid (World.grownBy_alloc w _ none)
  have HM := Lib.hid (fun (w' : World) (hg : w.grownBy w' none) => may_any p w' HP.out (HT.out.kept hg))
  have HW := Lib.hid (fun (w' : World) (hg : w.grownBy w' none) => works02_any w' (HT.out.kept hg))
  cases hm : mayP p with
  | false =>
    rw [hm] at HM
    clear hm
    go_enter Tryd.func6, Tryd.ntmps6
    go_wp2_with fail
    refine (HW.out _ HG0.out).mono ?_
    rintro e' w1 ⟨rfl, hg⟩
    have HG1 := hidTrans hg HG0
    have hp1 := (bkGrown hg HB0).out.prule
    clear hg
    go_wp2_with fail
    refine (HM.out _ HG1.out).mono ?_
    rintro e' w2 ⟨rfl, hg⟩
    have HG2 := hidTrans hg HG1
    clear hg
    go_wp2_with fail
    refine (HW.out _ HG2.out).mono ?_
    rintro e' w3 ⟨rfl, hg⟩
    have HG3 := hidTrans hg HG2
    clear hg
    go_wp2
    go_ret
    exact ⟨rfl, HG3.out⟩
  | true =>
    have HGd := Lib.hid (good_of hm)
    have hq0 : ¬ p.Q = 0 := by have := HGd.out.Q2; omega
    have hq1 : 2 ≤ p.Q := HGd.out.Q2
    rw [hm] at HM
    have HX := Lib.hid (pow_group (a := a) HGd.out.P HGd.out.G)
    have HXu := Lib.hid (powI_U64 p.G a p.P)
    have H1 := Lib.hid (powers_1 HGd.out.P HGd.out.Q HX.out HE.out.1 HF.out.1)
    have H2 := Lib.hid (powers_2 HGd.out.P HGd.out.Q HX.out HE.out.1)
    have H3 := Lib.hid (powers_3 HGd.out.P HGd.out.Q HX.out HE.out.1 HF.out.1)
    have HEm := Lib.hid (emod_U64 e p.Q HE.out (by omega))
    have htm : e.tmod p.Q = e % p.Q := Int.tmod_eq_emod_of_nonneg f0
    have HTm : Hid (U64 (e.tmod p.Q)) := Lib.hid (by rw [htm]; exact HEm.out)
    have HD1 : Hid ((timesI p.P [powI (powI p.G a p.P) e p.P, powI (powI p.G a p.P) f p.P] != powI (powI p.G a p.P) (addI e f p.Q) p.P) = false) := Lib.hid (by rw [H1.out]; simp)
    have HD2 : Hid ((powI (powI p.G a p.P) e p.P != powI (powI p.G a p.P) (e % p.Q) p.P) = false) := Lib.hid (by rw [← H2.out]; simp)
    have HD3 : Hid ((powI (powI p.G a p.P) e p.P != powI (powI p.G a p.P) (e.tmod p.Q) p.P) = false) := Lib.hid (by rw [htm]; exact HD2.out)
    have HD4 : Hid ((powI (powI (powI p.G a p.P) e p.P) f p.P == powI (powI p.G a p.P) (mulI e f p.Q) p.P) = true) := Lib.hid (by rw [H3.out]; simp)
    clear hm htm H1 H2 H3
    go_enter Tryd.func6, Tryd.ntmps6
    go_wp2_with fail
    refine (HW.out _ HG0.out).mono ?_
    rintro e' w1 ⟨rfl, hg⟩
    have HG1 := hidTrans hg HG0
    have HB1 := bkGrown hg HB0
    have hp1 := HB1.out.prule
    clear hg
    go_wp2_with fail
    refine (HM.out _ HG1.out).mono ?_
    rintro e' w2 ⟨rfl, hg⟩
    have HG2 := hidTrans hg HG1
    have HB2 := bkGrown hg HB1
    have hp2 := HB2.out.prule
    clear hg hp1
    go_wp2_with fail
    refine (power_any p p.G a _ HP.out.G HA.out).mono ?_
    rintro e' w3 ⟨rfl, hg⟩
    have HG3 := hidTrans hg HG2
    have HB3 := bkGrown hg HB2
    have hp3 := HB3.out.prule
    clear hg hp2
    generalize powI p.G a p.P = x at *
    go_wp2_with fail
    have HG4 : Hid (w.grownBy w3.drew none) := Lib.hid (grownBy_drewN HG3.out 1)
    have HB4 : Hid (Bk w3.drew w.heap.size 24 p.cells) := Lib.hid (HB3.out.drewN 1)
    have HP1 := Lib.hid (powI_U64 x e p.P)
    have HP2 := Lib.hid (powI_U64 x f p.P)
    have HA1 := Lib.hid (addI_U64 e f p.Q)
    have d1 := HD1.out
    have d2 := HD2.out
    have d3 := HD3.out
    go_region_held3 (fun w' => ∀ o, w'.cell? ⟨w.heap.size, o, none⟩ = (#[.int .u64 p.P, .int .u64 p.Q, .int .u64 p.G, .int .u64 p.H, .int .i64 p.Nodes, .int .i64 p.N, .int .i64 p.T, .int .i64 p.K, .int .i64 p.D, .int .i64 p.R, .int .i64 p.M, .int .i64 p.X] : Array Value)[o]?) (first | assumption | exact rule_alloc (by assumption) (by assumption) _ | go_keep) (first
      | (go_at_call 14; (with_reducible refine (power_any p x e _ HXu.out HE.out).mono ?_); rintro e' w' ⟨rfl, hg⟩; have HGx := hidTrans hg (by assumption); have HBx := bkGrown hg (by assumption); have hpx := HBx.out.prule; have hsx := HBx.out.lt; clear hg)
      | (go_at_call 14; (with_reducible refine (power_any p x f _ HXu.out HF.out).mono ?_); rintro e' w' ⟨rfl, hg⟩; have HGx := hidTrans hg (by assumption); have HBx := bkGrown hg (by assumption); have hpx := HBx.out.prule; have hsx := HBx.out.lt; clear hg)
      | (go_at_call 14; (with_reducible refine (power_any p x (addI e f p.Q) _ HXu.out HA1.out).mono ?_); rintro e' w' ⟨rfl, hg⟩; have HGx := hidTrans hg (by assumption); have HBx := bkGrown hg (by assumption); have hpx := HBx.out.prule; have hsx := HBx.out.lt; clear hg)
      | (go_at_call 14; (with_reducible refine (power_any p x (e % p.Q) _ HXu.out HEm.out).mono ?_); rintro e' w' ⟨rfl, hg⟩; have HGx := hidTrans hg (by assumption); have HBx := bkGrown hg (by assumption); have hpx := HBx.out.prule; have hsx := HBx.out.lt; clear hg)
      | (go_at_call 14; (with_reducible refine (power_any p x (e.tmod p.Q) _ HXu.out HTm.out).mono ?_); rintro e' w' ⟨rfl, hg⟩; have HGx := hidTrans hg (by assumption); have HBx := bkGrown hg (by assumption); have hpx := HBx.out.prule; have hsx := HBx.out.lt; clear hg)
      | (go_at_call 16; (with_reducible refine (times_two p (powI x e p.P) (powI x f p.P) _ HP1.out HP2.out).mono ?_); rintro e' w' ⟨rfl, hg⟩; have HGx := hidTrans hg (by assumption); have HBx := bkGrown hg (by assumption); have hpx := HBx.out.prule; have hsx := HBx.out.lt; clear hg)
      | (go_at_call 19; (with_reducible refine (add_gr e f p.Q _ HE.out HF.out).mono ?_); rintro e' w' ⟨rfl, hg⟩; have HGx := hidTrans hg (by assumption); have HBx := bkGrown hg (by assumption); have hpx := HBx.out.prule; have hsx := HBx.out.lt; clear hg))
    have d4 := HD4.out
    have HP3 := Lib.hid (mulI_U64 e f p.Q)
    clear d1 d2 d3
    go_wp2_with fail
    have HG5 : Hid (w.grownBy w'.drew none) := Lib.hid (grownBy_drewN HGx.out 1)
    have HB5 : Hid (Bk w'.drew w.heap.size 24 p.cells) := Lib.hid (HBx.out.drewN 1)
    go_region_held3 (fun w' => ∀ o, w'.cell? ⟨w.heap.size, o, none⟩ = (#[.int .u64 p.P, .int .u64 p.Q, .int .u64 p.G, .int .u64 p.H, .int .i64 p.Nodes, .int .i64 p.N, .int .i64 p.T, .int .i64 p.K, .int .i64 p.D, .int .i64 p.R, .int .i64 p.M, .int .i64 p.X] : Array Value)[o]?) (first | assumption | exact rule_alloc (by assumption) (by assumption) _ | go_keep) (first
      | (go_at_call 14; (with_reducible refine (power_any p x e _ HXu.out HE.out).mono ?_); rintro e' w' ⟨rfl, hg⟩; have HGx := hidTrans hg (by assumption); have HBx := bkGrown hg (by assumption); have hpx := HBx.out.prule; have hsx := HBx.out.lt; clear hg)
      | (go_at_call 14; (with_reducible refine (power_any p (powI x e p.P) f _ HP1.out HF.out).mono ?_); rintro e' w' ⟨rfl, hg⟩; have HGx := hidTrans hg (by assumption); have HBx := bkGrown hg (by assumption); have hpx := HBx.out.prule; have hsx := HBx.out.lt; clear hg)
      | (go_at_call 14; (with_reducible refine (power_any p x (mulI e f p.Q) _ HXu.out HP3.out).mono ?_); rintro e' w' ⟨rfl, hg⟩; have HGx := hidTrans hg (by assumption); have HBx := bkGrown hg (by assumption); have hpx := HBx.out.prule; have hsx := HBx.out.lt; clear hg)
      | (go_at_call 20; (with_reducible refine (mul_gr e f p.Q _ HE.out HF.out).mono ?_); rintro e' w' ⟨rfl, hg⟩; have HGx := hidTrans hg (by assumption); have HBx := bkGrown hg (by assumption); have hpx := HBx.out.prule; have hsx := HBx.out.lt; clear hg))
    go_wp2
    go_ret
    exact ⟨rfl, HGx.out⟩
end Go.Proofs.YtnjbigbiclfcoaaDoor
