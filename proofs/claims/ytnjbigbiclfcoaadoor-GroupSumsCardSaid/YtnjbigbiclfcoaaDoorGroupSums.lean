/- consistorylaw02.GroupSums, walked. -/
import Derived.Test.YtnjbigbiclfcoaaDoorWorks02
import Derived.Test.YtnjbigbiclfcoaaDoorGrpM
import Derived.Test.YtnjbigbiclfcoaaDoorGrpC
import Derived.Deep.DeepCutAuto
import Derived.Deep.CutBlock
namespace Go.Proofs.YtnjbigbiclfcoaaDoor
open Go.RowKit

theorem zero_pair (w : World) (n : Nat) : ((w.drewN n).alloc (Obj.cells #[.int .u64 0, .int .u64 0] 35)).cell? ⟨w.heap.size, 0, none⟩ = some (.int .u64 0) ∧ ((w.drewN n).alloc (Obj.cells #[.int .u64 0, .int .u64 0] 35)).cell? ⟨w.heap.size, 1, none⟩ = some (.int .u64 0) ∧
    ((w.drewN n).alloc (Obj.cells #[.int .u64 0, .int .u64 0] 35)).frozen? ⟨w.heap.size, 0, none⟩ = false ∧ ((w.drewN n).alloc (Obj.cells #[.int .u64 0, .int .u64 0] 35)).frozen? ⟨w.heap.size, 1, none⟩ = false :=
  have h : Bk ((w.drewN n).alloc (Obj.cells #[.int .u64 0, .int .u64 0] 35)) w.heap.size 35 #[.int .u64 0, .int .u64 0] := Bk.new (w.drewN n) _ _
  ⟨h.cell 0, h.cell 1, h.free 0, h.free 1⟩
theorem pair_made (w : World) (n : Nat) (a b : Int) : w.grownBy ((((w.drewN n).alloc (Obj.cells #[.int .u64 0, .int .u64 0] 35)).setCell ⟨w.heap.size, 0, none⟩ (.int .u64 a)).setCell ⟨w.heap.size, 1, none⟩ (.int .u64 b)) none ∧
    Bk ((((w.drewN n).alloc (Obj.cells #[.int .u64 0, .int .u64 0] 35)).setCell ⟨w.heap.size, 0, none⟩ (.int .u64 a)).setCell ⟨w.heap.size, 1, none⟩ (.int .u64 b)) w.heap.size 35 #[.int .u64 a, .int .u64 b] := by
  have h0 : Bk ((w.drewN n).alloc (Obj.cells #[.int .u64 0, .int .u64 0] 35)) w.heap.size 35 #[.int .u64 0, .int .u64 0] := Bk.new (w.drewN n) _ _
  have g0 : w.grownBy ((w.drewN n).alloc (Obj.cells #[.int .u64 0, .int .u64 0] 35)) none := (grownBy_drewN (World.grownBy.refl w none) n).trans (World.grownBy_alloc _ _ none)
  refine ⟨?_, (h0.set 0 _).set 1 _⟩
  have g1 := grown_up g0 (grownBy_set (World.grownBy.refl _ (some w.heap.size)) 0 (.int .u64 a)) (by intro g e; injection e with e; omega)
  exact grown_up g1 (grownBy_set (World.grownBy.refl _ (some w.heap.size)) 1 (.int .u64 b)) (by intro g e; injection e with e; omega)
theorem pair_made2 (w : World) (n m : Nat) (a b : Int) : w.grownBy (((((w.drewN n).alloc (Obj.cells #[.int .u64 0, .int .u64 0] 35)).drewN m).setCell ⟨w.heap.size, 0, none⟩ (.int .u64 a)).setCell ⟨w.heap.size, 1, none⟩ (.int .u64 b)) none ∧
    Bk (((((w.drewN n).alloc (Obj.cells #[.int .u64 0, .int .u64 0] 35)).drewN m).setCell ⟨w.heap.size, 0, none⟩ (.int .u64 a)).setCell ⟨w.heap.size, 1, none⟩ (.int .u64 b)) w.heap.size 35 #[.int .u64 a, .int .u64 b] := by
  have h0 : Bk (((w.drewN n).alloc (Obj.cells #[.int .u64 0, .int .u64 0] 35)).drewN m) w.heap.size 35 #[.int .u64 0, .int .u64 0] := (Bk.new (w.drewN n) _ _).drewN m
  have g0 : w.grownBy (((w.drewN n).alloc (Obj.cells #[.int .u64 0, .int .u64 0] 35)).drewN m) none := grownBy_drewN ((grownBy_drewN (World.grownBy.refl w none) n).trans (World.grownBy_alloc _ _ none)) m
  refine ⟨?_, (h0.set 0 _).set 1 _⟩
  have g1 := grown_up g0 (grownBy_set (World.grownBy.refl _ (some w.heap.size)) 0 (.int .u64 a)) (by intro g e; injection e with e; omega)
  exact grown_up g1 (grownBy_set (World.grownBy.refl _ (some w.heap.size)) 1 (.int .u64 b)) (by intro g e; injection e with e; omega)
theorem bkDrawn {w : World} {g : Nat} {t : TypeId} {cs : Array Value} (h : Hid (Bk w g t cs)) (n : Nat) : Hid (Bk (w.drewN n) g t cs) := Lib.hid (h.out.drewN n)
set_option maxHeartbeats 1000000 in
theorem gsums_law (p : Par) (x y : Int × Int) (k : Int) (w : World) (hp : p.ok) (hx : U64 x.1 ∧ U64 x.2) (hy : U64 y.1 ∧ U64 y.2) (hk : U64 k) (hT : TabsAt w) :
    Calls Tryd.prog 7 #[p.v, .agg #[.int .u64 x.1, .int .u64 x.2], .agg #[.int .u64 y.1, .int .u64 y.2], .int .u64 k] w fun e' w' => e' = .returned (.bool true) ∧ w.grownBy w' none := by
  have HT := Lib.hid hT
  have HP := Lib.hid hp
  have HX := Lib.hid hx
  have HY := Lib.hid hy
  have HK := Lib.hid hk
  clear hT hp hx hy hk
  have HBp : Hid (Bk (((w.alloc (Obj.cells p.cells 24)).alloc (Obj.cells #[.int .u64 x.1, .int .u64 x.2] 35)).alloc (Obj.cells #[.int .u64 y.1, .int .u64 y.2] 35)) w.heap.size 24 p.cells) := Lib.hid (((Bk.new w _ _).alloc _).alloc _)
  have HBx : Hid (Bk (((w.alloc (Obj.cells p.cells 24)).alloc (Obj.cells #[.int .u64 x.1, .int .u64 x.2] 35)).alloc (Obj.cells #[.int .u64 y.1, .int .u64 y.2] 35)) (w.heap.size + 1) 35 #[.int .u64 x.1, .int .u64 x.2]) := Lib.hid (by
    have := (Bk.new (w.alloc (Obj.cells p.cells 24)) 35 #[.int .u64 x.1, .int .u64 x.2]).alloc (Obj.cells #[.int .u64 y.1, .int .u64 y.2] 35)
    rwa [World.size_alloc] at this)
  have HBy : Hid (Bk (((w.alloc (Obj.cells p.cells 24)).alloc (Obj.cells #[.int .u64 x.1, .int .u64 x.2] 35)).alloc (Obj.cells #[.int .u64 y.1, .int .u64 y.2] 35)) (w.heap.size + 1 + 1) 35 #[.int .u64 y.1, .int .u64 y.2]) := Lib.hid (by
    have := Bk.new ((w.alloc (Obj.cells p.cells 24)).alloc (Obj.cells #[.int .u64 x.1, .int .u64 x.2] 35)) 35 #[.int .u64 y.1, .int .u64 y.2]
    rwa [World.size_alloc, World.size_alloc] at this)
  have HG0 : Hid (w.grownBy (((w.alloc (Obj.cells p.cells 24)).alloc (Obj.cells #[.int .u64 x.1, .int .u64 x.2] 35)).alloc (Obj.cells #[.int .u64 y.1, .int .u64 y.2] 35)) none) := Lib.hid (((World.grownBy_alloc w _ none).trans (World.grownBy_alloc _ _ none)).trans (World.grownBy_alloc _ _ none))
  have HM := Lib.hid (fun (w' : World) (hg : w.grownBy w' none) => may_any p w' HP.out (HT.out.kept hg))
  have HW := Lib.hid (fun (w' : World) (hg : w.grownBy w' none) => works02_any w' (HT.out.kept hg))
  cases hm : mayP p with
  | false =>
    rw [hm] at HM
    clear hm
    go_enter Tryd.func7, Tryd.ntmps7
    go_wp2_with fail
    refine (HW.out _ HG0.out).mono ?_
    rintro e' w1 ⟨rfl, hg⟩
    have HG1 := hidTrans hg HG0
    have hp1 := (bkGrown hg HBp).out.prule
    clear hg
    go_wp2_with fail
    refine (HM.out _ HG1.out).mono ?_
    rintro e' w2 ⟨rfl, hg⟩
    have HG2 := hidTrans hg HG1
    clear hg
    go_wp2_with fail
    refine (HW.out _ HG2.out).mono ?_
    rintro e' w3 ⟨rfl, hg⟩
    have HG3 := hidTrans hg HG2
    clear hg
    go_wp2
    go_ret
    exact ⟨rfl, HG3.out⟩
  | true =>
    have HGd := Lib.hid (good_of hm)
    rw [hm] at HM
    have H1 := Lib.hid (sums_1 HGd.out x y HX.out.1.1 HX.out.2.1 HY.out.1.1 HY.out.2.1)
    have H2 := Lib.hid (sums_2 HGd.out x k HX.out.1.1 HX.out.2.1 HK.out.1)
    clear hm
    go_enter Tryd.func7, Tryd.ntmps7
    go_wp2_with fail
    refine (HW.out _ HG0.out).mono ?_
    rintro e' w1 ⟨rfl, hg⟩
    have HG1 := hidTrans hg HG0
    have HBp1 := bkGrown hg HBp
    have HBx1 := bkGrown hg HBx
    have HBy1 := bkGrown hg HBy
    have hp1 := HBp1.out.prule
    clear hg
    go_wp2_with fail
    refine (HM.out _ HG1.out).mono ?_
    rintro e' w2 ⟨rfl, hg⟩
    have HG2 := hidTrans hg HG1
    have HBp2 := bkGrown hg HBp1
    have HBx2 := bkGrown hg HBx1
    have HBy2 := bkGrown hg HBy1
    have hp2 := HBp2.out.prule
    have hx2 := HBx2.out.rule
    have hy2 := HBy2.out.rule
    have hs2 := HBy2.out.lt
    clear hg hp1 HBp HBx HBy HBp1 HBx1 HBy1 HG0 HG1
    go_upto_region 3 with fail
    go_cut [9] (fun s9 wx => ∃ g : Nat, s9 = .pointer (some ⟨g, 0, none⟩) ∧ Hid (w2.grownBy wx none ∧ Bk wx g 35 #[.int .u64 (addI x.1 y.1 p.Q), .int .u64 (addI x.2 y.2 p.Q)]))
    case first =>
      have c0 : w2.cell? ⟨w.heap.size, 1, none⟩ = some (.int .u64 p.Q) := HBp2.out.cell 1
      have c1 : w2.cell? ⟨w.heap.size + 1, 0, none⟩ = some (.int .u64 x.1) := HBx2.out.cell 0
      have c2 : w2.cell? ⟨w.heap.size + 1, 1, none⟩ = some (.int .u64 x.2) := HBx2.out.cell 1
      have c3 : w2.cell? ⟨w.heap.size + 1 + 1, 0, none⟩ = some (.int .u64 y.1) := HBy2.out.cell 0
      have c4 : w2.cell? ⟨w.heap.size + 1 + 1, 1, none⟩ = some (.int .u64 y.2) := HBy2.out.cell 1
      have n0 := World.new_ne w2 _ c0
      have n1 := World.new_ne w2 _ c1
      have n2 := World.new_ne w2 _ c2
      have n3 := World.new_ne w2 _ c3
      have n4 := World.new_ne w2 _ c4
      have z0 := fun n => (zero_pair w2 n).1
      have z1 := fun n => (zero_pair w2 n).2.1
      have z2 := fun n => (zero_pair w2 n).2.2.1
      have z3 := fun n => (zero_pair w2 n).2.2.2
      clear hp2 hx2 hy2
      go_region_held3 (fun w' => w'.cell? ⟨w.heap.size, 1, none⟩ = some (.int .u64 p.Q) ∧ w'.cell? ⟨w.heap.size + 1, 0, none⟩ = some (.int .u64 x.1) ∧ w'.cell? ⟨w.heap.size + 1, 1, none⟩ = some (.int .u64 x.2) ∧ w'.cell? ⟨w.heap.size + 1 + 1, 0, none⟩ = some (.int .u64 y.1) ∧ w'.cell? ⟨w.heap.size + 1 + 1, 1, none⟩ = some (.int .u64 y.2)) (go_keep)
        (first
        | (go_at_call 19; (with_reducible refine (add_any x.1 y.1 p.Q _ HX.out.1 HY.out.1).mono ?_); rintro e' w' ⟨rfl, n1, rfl⟩)
        | (go_at_call 19; (with_reducible refine (add_any x.2 y.2 p.Q _ HX.out.2 HY.out.2).mono ?_); rintro e' w' ⟨rfl, n2, rfl⟩))
      all_goals (go_wp2_with fail; go_meet; first | exact ⟨_, rfl, Lib.hid (pair_made w2 _ _ _)⟩ | exact ⟨_, rfl, Lib.hid (pair_made2 w2 _ _ _ _)⟩)
    case rest =>
      obtain ⟨g9, rfl, H9⟩ := hcut
      rename World => v1
      have HG3 : Hid (w.grownBy v1 none) := hidTrans H9.out.1 HG2
      have HBp3 := bkGrown H9.out.1 HBp2
      have HBx3 := bkGrown H9.out.1 HBx2
      have HBy3 := bkGrown H9.out.1 HBy2
      have HB93 : Hid (Bk v1 g9 35 #[.int .u64 (addI x.1 y.1 p.Q), .int .u64 (addI x.2 y.2 p.Q)]) := Lib.hid H9.out.2
      clear HBp2 HBx2 HBy2 HG2 H9 hp2 hx2 hy2 hs2
      go_upto_region 4 with fail
      go_cut [10] (fun s10 wx => ∃ g : Nat, s10 = .pointer (some ⟨g, 0, none⟩) ∧ Hid (v1.grownBy wx none ∧ Bk wx g 35 #[.int .u64 (mulI x.1 k p.Q), .int .u64 (mulI x.2 k p.Q)]))
      case first =>
        have c0 : v1.cell? ⟨w.heap.size, 1, none⟩ = some (.int .u64 p.Q) := HBp3.out.cell 1
        have c1 : v1.cell? ⟨w.heap.size + 1, 0, none⟩ = some (.int .u64 x.1) := HBx3.out.cell 0
        have c2 : v1.cell? ⟨w.heap.size + 1, 1, none⟩ = some (.int .u64 x.2) := HBx3.out.cell 1
        have n0 := World.new_ne v1 _ c0
        have n1 := World.new_ne v1 _ c1
        have n2 := World.new_ne v1 _ c2
        have z0 := fun n => (zero_pair v1 n).1
        have z1 := fun n => (zero_pair v1 n).2.1
        have z2 := fun n => (zero_pair v1 n).2.2.1
        have z3 := fun n => (zero_pair v1 n).2.2.2
        go_region_held3 (fun w' => w'.cell? ⟨w.heap.size, 1, none⟩ = some (.int .u64 p.Q) ∧ w'.cell? ⟨w.heap.size + 1, 0, none⟩ = some (.int .u64 x.1) ∧ w'.cell? ⟨w.heap.size + 1, 1, none⟩ = some (.int .u64 x.2)) (go_keep)
          (first
          | (go_at_call 20; (with_reducible refine (mul_any x.1 k p.Q _ HX.out.1 HK.out).mono ?_); rintro e' w' ⟨rfl, n1, rfl⟩)
          | (go_at_call 20; (with_reducible refine (mul_any x.2 k p.Q _ HX.out.2 HK.out).mono ?_); rintro e' w' ⟨rfl, n2, rfl⟩))
        all_goals (go_wp2_with fail; go_meet; first | exact ⟨_, rfl, Lib.hid (pair_made v1 _ _ _)⟩ | exact ⟨_, rfl, Lib.hid (pair_made2 v1 _ _ _ _)⟩)
      case rest =>
        obtain ⟨g10, rfl, H10⟩ := hcut
        have HG4 : Hid (w.grownBy wc none) := hidTrans H10.out.1 HG3
        have HBp4 := bkGrown H10.out.1 HBp3
        have HBx4 := bkGrown H10.out.1 HBx3
        have HBy4 := bkGrown H10.out.1 HBy3
        have HB94 := bkGrown H10.out.1 HB93
        have HB104 : Hid (Bk wc g10 35 #[.int .u64 (mulI x.1 k p.Q), .int .u64 (mulI x.2 k p.Q)]) := Lib.hid H10.out.2
        clear HBp3 HBx3 HBy3 HG3 H10 HB93
        have HS : Hid ((timesI p.P [commitI p x, commitI p y] == commitI p (addI x.1 y.1 p.Q, addI x.2 y.2 p.Q)) = true) := Lib.hid (by rw [H1.out]; simp)
        have HS2 : Hid ((powI (commitI p x) k p.P == commitI p (mulI x.1 k p.Q, mulI x.2 k p.Q)) = true) := Lib.hid (by rw [H2.out]; simp)
        have HA1 := Lib.hid (addI_U64 x.1 y.1 p.Q)
        have HA2 := Lib.hid (addI_U64 x.2 y.2 p.Q)
        have HM1 := Lib.hid (mulI_U64 x.1 k p.Q)
        have HM2 := Lib.hid (mulI_U64 x.2 k p.Q)
        have HC1 : Hid (U64 (commitI p x)) := Lib.hid (timesI_U64 p.P [powI p.G x.1 p.P, powI p.H x.2 p.P])
        have HC2 : Hid (U64 (commitI p y)) := Lib.hid (timesI_U64 p.P [powI p.G y.1 p.P, powI p.H y.2 p.P])
        clear H1 H2
        have e1 := HS.out
        have e2 := HS2.out
        have hp4 := HBp4.out.prule
        have hx4 := HBx4.out.rule
        have hy4 := HBy4.out.rule
        have h94 := HB94.out.rule
        have h104 := HB104.out.rule
        have ls := HBp4.out.lt
        have l1 := HBx4.out.lt
        have l2 := HBy4.out.lt
        have l3 := HB94.out.lt
        have l4 := HB104.out.lt
        have HG5 : Hid (w.grownBy wc.drew none) := Lib.hid (grownBy_drewN HG4.out 1)
        have HBp5 : Hid (Bk wc.drew w.heap.size 24 p.cells) := Lib.hid (HBp4.out.drewN 1)
        have HBx5 : Hid (Bk wc.drew (w.heap.size + 1) 35 #[.int .u64 x.1, .int .u64 x.2]) := Lib.hid (HBx4.out.drewN 1)
        have HBy5 : Hid (Bk wc.drew (w.heap.size + 1 + 1) 35 #[.int .u64 y.1, .int .u64 y.2]) := Lib.hid (HBy4.out.drewN 1)
        have HB95 : Hid (Bk wc.drew g9 35 #[.int .u64 (addI x.1 y.1 p.Q), .int .u64 (addI x.2 y.2 p.Q)]) := Lib.hid (HB94.out.drewN 1)
        have HB105 : Hid (Bk wc.drew g10 35 #[.int .u64 (mulI x.1 k p.Q), .int .u64 (mulI x.2 k p.Q)]) := Lib.hid (HB104.out.drewN 1)
        go_wp2_with fail
        go_region_held3 (fun w' => (∀ o, w'.cell? ⟨w.heap.size, o, none⟩ = (#[.int .u64 p.P, .int .u64 p.Q, .int .u64 p.G, .int .u64 p.H, .int .i64 p.Nodes, .int .i64 p.N, .int .i64 p.T, .int .i64 p.K, .int .i64 p.D, .int .i64 p.R, .int .i64 p.M, .int .i64 p.X] : Array Value)[o]?) ∧ (∀ o, w'.cell? ⟨w.heap.size + 1, o, none⟩ = (#[.int .u64 x.1, .int .u64 x.2] : Array Value)[o]?) ∧ (∀ o, w'.cell? ⟨w.heap.size + 1 + 1, o, none⟩ = (#[.int .u64 y.1, .int .u64 y.2] : Array Value)[o]?) ∧ (∀ o, w'.cell? ⟨g9, o, none⟩ = (#[.int .u64 (addI x.1 y.1 p.Q), .int .u64 (addI x.2 y.2 p.Q)] : Array Value)[o]?) ∧ (∀ o, w'.cell? ⟨g10, o, none⟩ = (#[.int .u64 (mulI x.1 k p.Q), .int .u64 (mulI x.2 k p.Q)] : Array Value)[o]?))
          (first | (exact ⟨by assumption, by assumption, by assumption, by assumption, by assumption⟩) | (refine ⟨?_, ?_, ?_, ?_, ?_⟩ <;> (first | assumption | (refine rule_alloc ?_ ?_ _ <;> first | assumption | (simp; omega)) | (intro o; simp [*]))))
          (first
          | (go_at_call 17; (with_reducible refine (commit_any p x _ HP.out HX.out.1 HX.out.2).mono ?_); rintro e' w' ⟨rfl, hg⟩; have HGx := hidTrans hg (by assumption); have HPx := bkGrown (g := w.heap.size) hg (by assumption); have HXx := bkGrown (g := w.heap.size + 1) hg (by assumption); have HYx := bkGrown (g := w.heap.size + 1 + 1) hg (by assumption); have HNx := bkGrown (g := g9) hg (by assumption); have HTx := bkGrown (g := g10) hg (by assumption); have rp := HPx.out.prule; have rx := HXx.out.rule; have ry := HYx.out.rule; have rn := HNx.out.rule; have rt := HTx.out.rule; have lp := HPx.out.lt; have lx := HXx.out.lt; have ly := HYx.out.lt; have ln := HNx.out.lt; have lt := HTx.out.lt; clear hg)
          | (go_at_call 17; (with_reducible refine (commit_any p y _ HP.out HY.out.1 HY.out.2).mono ?_); rintro e' w' ⟨rfl, hg⟩; have HGx := hidTrans hg (by assumption); have HPx := bkGrown (g := w.heap.size) hg (by assumption); have HXx := bkGrown (g := w.heap.size + 1) hg (by assumption); have HYx := bkGrown (g := w.heap.size + 1 + 1) hg (by assumption); have HNx := bkGrown (g := g9) hg (by assumption); have HTx := bkGrown (g := g10) hg (by assumption); have rp := HPx.out.prule; have rx := HXx.out.rule; have ry := HYx.out.rule; have rn := HNx.out.rule; have rt := HTx.out.rule; have lp := HPx.out.lt; have lx := HXx.out.lt; have ly := HYx.out.lt; have ln := HNx.out.lt; have lt := HTx.out.lt; clear hg)
          | (go_at_call 16; (with_reducible refine (times_two p (commitI p x) (commitI p y) _ HC1.out HC2.out).mono ?_); rintro e' w' ⟨rfl, hg⟩; have HGx := hidTrans hg (by assumption); have HPx := bkGrown (g := w.heap.size) hg (by assumption); have HXx := bkGrown (g := w.heap.size + 1) hg (by assumption); have HYx := bkGrown (g := w.heap.size + 1 + 1) hg (by assumption); have HNx := bkGrown (g := g9) hg (by assumption); have HTx := bkGrown (g := g10) hg (by assumption); have rp := HPx.out.prule; have rx := HXx.out.rule; have ry := HYx.out.rule; have rn := HNx.out.rule; have rt := HTx.out.rule; have lp := HPx.out.lt; have lx := HXx.out.lt; have ly := HYx.out.lt; have ln := HNx.out.lt; have lt := HTx.out.lt; clear hg)
          | (go_at_call 17; (with_reducible refine (commit_any p (addI x.1 y.1 p.Q, addI x.2 y.2 p.Q) _ HP.out HA1.out HA2.out).mono ?_); rintro e' w' ⟨rfl, hg⟩; have HGx := hidTrans hg (by assumption); have HPx := bkGrown (g := w.heap.size) hg (by assumption); have HXx := bkGrown (g := w.heap.size + 1) hg (by assumption); have HYx := bkGrown (g := w.heap.size + 1 + 1) hg (by assumption); have HNx := bkGrown (g := g9) hg (by assumption); have HTx := bkGrown (g := g10) hg (by assumption); have rp := HPx.out.prule; have rx := HXx.out.rule; have ry := HYx.out.rule; have rn := HNx.out.rule; have rt := HTx.out.rule; have lp := HPx.out.lt; have lx := HXx.out.lt; have ly := HYx.out.lt; have ln := HNx.out.lt; have lt := HTx.out.lt; clear hg)
          | (go_at_call 17; (with_reducible refine (commit_any p (mulI x.1 k p.Q, mulI x.2 k p.Q) _ HP.out HM1.out HM2.out).mono ?_); rintro e' w' ⟨rfl, hg⟩; have HGx := hidTrans hg (by assumption); have HPx := bkGrown (g := w.heap.size) hg (by assumption); have HXx := bkGrown (g := w.heap.size + 1) hg (by assumption); have HYx := bkGrown (g := w.heap.size + 1 + 1) hg (by assumption); have HNx := bkGrown (g := g9) hg (by assumption); have HTx := bkGrown (g := g10) hg (by assumption); have rp := HPx.out.prule; have rx := HXx.out.rule; have ry := HYx.out.rule; have rn := HNx.out.rule; have rt := HTx.out.rule; have lp := HPx.out.lt; have lx := HXx.out.lt; have ly := HYx.out.lt; have ln := HNx.out.lt; have lt := HTx.out.lt; clear hg)
          | (go_at_call 14; (with_reducible refine (power_any p (commitI p x) k _ HC1.out HK.out).mono ?_); rintro e' w' ⟨rfl, hg⟩; have HGx := hidTrans hg (by assumption); have HPx := bkGrown (g := w.heap.size) hg (by assumption); have HXx := bkGrown (g := w.heap.size + 1) hg (by assumption); have HYx := bkGrown (g := w.heap.size + 1 + 1) hg (by assumption); have HNx := bkGrown (g := g9) hg (by assumption); have HTx := bkGrown (g := g10) hg (by assumption); have rp := HPx.out.prule; have rx := HXx.out.rule; have ry := HYx.out.rule; have rn := HNx.out.rule; have rt := HTx.out.rule; have lp := HPx.out.lt; have lx := HXx.out.lt; have ly := HYx.out.lt; have ln := HNx.out.lt; have lt := HTx.out.lt; clear hg))
        go_wp2
        go_ret
        exact ⟨rfl, HGx.out⟩
end Go.Proofs.YtnjbigbiclfcoaaDoor
