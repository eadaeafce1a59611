/- consistorylaw02.GroupNames, walked. -/
import Derived.Test.YtnjbigbiclfcoaaDoorWorks02
import Derived.Test.YtnjbigbiclfcoaaDoorGrpM
import Derived.Test.YtnjbigbiclfcoaaDoorPowF
import Derived.Test.YtnjbigbiclfcoaaDoorEncW
import Derived.Test.YtnjbigbiclfcoaaDoorQuietLast
import Derived.Deep.RegionHeld3
import Derived.Deep.DeepCutAuto
import Derived.Deep.CutBlock
namespace Go.Proofs.YtnjbigbiclfcoaaDoor
open Go.RowKit

def badL : List Par := [{ pE with G := 5 }, { pE with N := 3 }, { pE with M := 3 }, { pE with H := 1 }, { pE with G := 0 }, { pE with Q := 22 }, { pE with P := 22 }, { pE with T := 0 }, { pE with T := 2 }, { pE with Nodes := 3 }, { pE with Nodes := 9 }, { pE with K := 3 }, { pE with D := 0 }, { pE with R := 2 }, { pE with X := 0 }, { pE with H := 27 }, { pE with K := 0 }, { pE with R := 0 }]
theorem badL_may : ∀ q ∈ badL, mayP q = false := by
  have h : badL.all (fun q => !mayP q) = true := by decide +kernel
  intro q hq
  have := List.all_eq_true.1 h q hq
  simpa using this
theorem badL_ok : ∀ q ∈ badL, q.ok := by
  intro q hq
  simp only [badL, List.mem_cons, List.not_mem_nil, or_false] at hq
  rcases hq with rfl | rfl | rfl | rfl | rfl | rfl | rfl | rfl | rfl | rfl | rfl | rfl | rfl | rfl | rfl | rfl | rfl | rfl <;> (constructor <;> (first | (unfold U64; decide) | (unfold I64; decide)))
def powL : List Int := [1, 4, 16, 18, 3, 12, 2, 8, 9, 13, 6, 1]
theorem powL_all : ∀ j (h : j < powL.length), powI 4 (j : Int) 23 = powL[j] ∧ isB pE powL[j] = true ∧ U64 powL[j] := by
  have h : (List.range 12).all (fun j => decide (powI 4 (j : Int) 23 = powL[j]?.getD 0) && isB pE (powL[j]?.getD 0) && decide (U64 (powL[j]?.getD 0))) = true := by decide +kernel
  intro j hj
  have := List.all_eq_true.1 h j (by simpa [powL] using hj)
  rw [List.getElem?_eq_getElem hj] at this
  simpa [and_assoc] using this
theorem wpList_build {P : Program} {ops : Array Oper} {rest : List Oper} {o : Oper} {a : Act} {w : World} {Q : Exit → Act → World → Prop} (hg : o.guard = none) (t : TypeId) (n : Nat) (parts : Array (Nat × Operand)) (hop : o.op = Op.buildSlice t n parts)
    (vals : Array (Nat × Value)) (hv : (parts.map fun x => (x.1, a.eval x.2)) = vals) (v : Value) (w' : World) (hrun : (Instr.buildSlice t n vals).run P w = .ok v w') (hK : wpList P ops Q rest (a.put o.dst v) w') : wpList P ops Q (o :: rest) a w := by
  refine wpList_plain hg fun K hK' => ?_
  unfold Oper.wp
  simp only [execOp, hop, hv]
  simp [hrun, Result.andThen]
  exact hK' _ _ hK
def cs18 : Array Value := ((List.replicate 18 pE.cells.toList).flatten).toArray
def bad18 : Array Value := ((badL.map fun q => q.cells.toList).flatten).toArray
theorem run18 (w : World) : (Instr.buildSlice 28 18 (#[(0, pE.v), (1, pE.v), (2, pE.v), (3, pE.v), (4, pE.v), (5, pE.v), (6, pE.v), (7, pE.v), (8, pE.v), (9, pE.v), (10, pE.v), (11, pE.v), (12, pE.v), (13, pE.v), (14, pE.v), (15, pE.v), (16, pE.v), (17, pE.v)])).run Tryd.prog w = .ok (.slice (some ⟨w.heap.size, 0, none⟩) 18 18) (w.alloc (.cells cs18 24)) := by kernel_rfl
theorem bad18_eq : ((((((((((((((((((cs18.setIfInBounds 2 (.int .u64 5)).setIfInBounds 17 (.int .i64 3)).setIfInBounds 34 (.int .i64 3)).setIfInBounds 39 (.int .u64 1)).setIfInBounds 50 (.int .u64 0)).setIfInBounds 61 (.int .u64 22)).setIfInBounds 72 (.int .u64 22)).setIfInBounds 90 (.int .i64 0)).setIfInBounds 102 (.int .i64 2)).setIfInBounds 112 (.int .i64 3)).setIfInBounds 124 (.int .i64 9)).setIfInBounds 139 (.int .i64 3)).setIfInBounds 152 (.int .i64 0)).setIfInBounds 165 (.int .i64 2)).setIfInBounds 179 (.int .i64 0)).setIfInBounds 183 (.int .u64 27)).setIfInBounds 199 (.int .i64 0)).setIfInBounds 213 (.int .i64 0)) = bad18 := by kernel_rfl
def gr0 : Par := ⟨2305843009213693951, 1321, 0, 0, 7, 7, 2, 2, 2, 1, 10, 10⟩
abbrev gr2 : Par := { gr0 with G := 234060095121088422, H := 814652170479903933 }
theorem gr2_ok : gr2.ok := by constructor <;> (first | (unfold U64; decide) | (unfold I64; decide))
theorem gr2_is (x : Int) (h : x = 234060095121088422 ∨ x = 814652170479903933) : isB gr2 x = true := by
  unfold isB
  rw [powI_fast _ _ _ (by decide +kernel) (by decide)]
  rcases h with rfl | rfl <;> decide +kernel
theorem gr2_may : mayP gr2 = true := by
  have h9 : m9 gr2 = true := by
    unfold m9
    rw [primeF_eq, primeF_eq]
    decide +kernel
  have h10 : m10 gr2 = true := by
    unfold m10
    rw [gr2_is _ (.inl rfl), gr2_is _ (.inr rfl)]
    decide +kernel
  unfold mayP
  rw [h9, h10]
  decide +kernel
abbrev p00 : Par := ⟨0, 0, 0, 0, 0, 0, 0, 0, 0, 0, 0, 0⟩
theorem p00_ok : p00.ok := by constructor <;> (first | (unfold U64; decide) | (unfold I64; decide))
abbrev p23 : Par := ⟨23, 0, 0, 0, 0, 0, 0, 0, 0, 0, 0, 0⟩
theorem times_one (p : Par) (a : Int) (w : World) (ha : U64 a) :
    Calls Tryd.prog 16 #[p.v, .slice (some ⟨w.heap.size, 0, none⟩) 1 1] (w.alloc (Obj.cells #[.int .u64 a] 22)) fun e w' => e = .returned (.int .u64 (timesI p.P [a])) ∧ w.grownBy w' none :=
  (times_any p _ [a] (fun _ => True) _ (Sl.ofBk (t := 22) (Bk.new w 22 (nums [a]).toArray) (by intro y hy; simp at hy; subst hy; exact ha) (by simp))).mono fun _ _ ⟨he, hg⟩ => ⟨he, (World.grownBy_alloc w _ none).trans hg⟩
theorem at_one (p : Par) (a i : Int) (w : World) (ha : U64 a) (hi : U64 i) :
    Calls Tryd.prog 18 #[p.v, .slice (some ⟨w.heap.size, 0, none⟩) 1 1, .int .u64 i] (w.alloc (Obj.cells #[.int .u64 a] 22)) fun e w' => e = .returned (.int .u64 (atI p [a] i)) ∧ w.grownBy w' none :=
  (at_all p _ [a] i (fun _ => True) _ (Sl.ofBk (t := 22) (Bk.new w 22 (nums [a]).toArray) (by intro y hy; simp at hy; subst hy; exact ha) (by simp)) hi).mono fun _ _ ⟨he, hg⟩ => ⟨he, (World.grownBy_alloc w _ none).trans hg⟩
abbrev gr1 : Par := { gr0 with G := 234060095121088422 }
set_option maxRecDepth 100000 in
set_option maxHeartbeats 8000000 in
theorem gnames_law (w : World) (hT : TabsAt w) :
    Calls Tryd.prog 4 #[] w fun e' w' => e' = .returned (.bool true) ∧ w.grownBy w' none := by
  have HT := Lib.hid hT
  clear hT
  go_enter Tryd.func4, Tryd.ntmps4
  go_wp2_with fail
  refine (works02_any w HT.out).mono ?_
  rintro e' w1 ⟨rfl, hg⟩
  have HG1 := Lib.hid hg
  clear hg
  go_wp2_with fail
  refine (small02_any w1).mono ?_
  rintro e' w2 ⟨rfl, hg⟩
  have HG2 : Hid (w.grownBy w2 none) := Lib.hid (HG1.out.trans hg)
  clear hg HG1
  go_upto_region 5 with ((with_reducible refine wpList_build (o := ⟨some 43, _, _, _, _, _⟩) rfl _ _ _ rfl _ ?hv _ _ (run18 _) ?_); (case hv => kernel_rfl))
  obtain ⟨W, hW⟩ : ∃ W, W = ((w2.alloc (Obj.cells pE.cells 24)).alloc (.cells cs18 24)) := ⟨_, rfl⟩
  have HB : Hid (Bk W (w2.heap.size + 1) 24 cs18) := Lib.hid (by
    have := Bk.new (w2.alloc (Obj.cells pE.cells 24)) 24 cs18
    rw [World.size_alloc] at this
    rw [hW]
    exact this)
  have HPb : Hid (Bk W w2.heap.size 24 pE.cells) := Lib.hid (by rw [hW]; exact (Bk.new w2 _ _).alloc _)
  have HGW : Hid (w.grownBy W none) := Lib.hid (by rw [hW]; exact (HG2.out.trans (World.grownBy_alloc _ _ none)).trans (World.grownBy_alloc _ _ none))
  have HSZ : Hid (w2.heap.size + 1 < W.heap.size) := Lib.hid HB.out.lt
  rw [← hW]
  clear hW
  have HNE : Hid (w2.heap.size + 1 ≠ w2.heap.size) := Lib.hid (by omega)
  have HGE : Hid (w.heap.size ≤ w2.heap.size + 1) := Lib.hid (by have := HG2.out.size; omega)
  generalize w2.heap.size + 1 = gB at *
  have c0 : W.cell? ⟨gB, 2, none⟩ = some (.int .u64 4) := (HB.out.cell 2).trans (by kernel_rfl)
  have c1 : W.cell? ⟨gB, 17, none⟩ = some (.int .i64 4) := (HB.out.cell 17).trans (by kernel_rfl)
  have c2 : W.cell? ⟨gB, 34, none⟩ = some (.int .i64 1) := (HB.out.cell 34).trans (by kernel_rfl)
  have c3 : W.cell? ⟨gB, 39, none⟩ = some (.int .u64 9) := (HB.out.cell 39).trans (by kernel_rfl)
  have c4 : W.cell? ⟨gB, 50, none⟩ = some (.int .u64 4) := (HB.out.cell 50).trans (by kernel_rfl)
  have c5 : W.cell? ⟨gB, 61, none⟩ = some (.int .u64 11) := (HB.out.cell 61).trans (by kernel_rfl)
  have c6 : W.cell? ⟨gB, 72, none⟩ = some (.int .u64 23) := (HB.out.cell 72).trans (by kernel_rfl)
  have c7 : W.cell? ⟨gB, 90, none⟩ = some (.int .i64 1) := (HB.out.cell 90).trans (by kernel_rfl)
  have c8 : W.cell? ⟨gB, 102, none⟩ = some (.int .i64 1) := (HB.out.cell 102).trans (by kernel_rfl)
  have c9 : W.cell? ⟨gB, 112, none⟩ = some (.int .i64 4) := (HB.out.cell 112).trans (by kernel_rfl)
  have c10 : W.cell? ⟨gB, 124, none⟩ = some (.int .i64 4) := (HB.out.cell 124).trans (by kernel_rfl)
  have c11 : W.cell? ⟨gB, 139, none⟩ = some (.int .i64 1) := (HB.out.cell 139).trans (by kernel_rfl)
  have c12 : W.cell? ⟨gB, 152, none⟩ = some (.int .i64 1) := (HB.out.cell 152).trans (by kernel_rfl)
  have c13 : W.cell? ⟨gB, 165, none⟩ = some (.int .i64 1) := (HB.out.cell 165).trans (by kernel_rfl)
  have c14 : W.cell? ⟨gB, 179, none⟩ = some (.int .i64 1) := (HB.out.cell 179).trans (by kernel_rfl)
  have c15 : W.cell? ⟨gB, 183, none⟩ = some (.int .u64 9) := (HB.out.cell 183).trans (by kernel_rfl)
  have c16 : W.cell? ⟨gB, 199, none⟩ = some (.int .i64 1) := (HB.out.cell 199).trans (by kernel_rfl)
  have c17 : W.cell? ⟨gB, 213, none⟩ = some (.int .i64 1) := (HB.out.cell 213).trans (by kernel_rfl)
  have hfz : ∀ i, W.frozen? ⟨gB, i, none⟩ = false := fun i => HB.out.free i
  go_upto_region 24 with fail
  obtain ⟨W3, hW3⟩ : ∃ W3, W3 = ((((((((((((((((((W.setCell ⟨gB, 2, none⟩ (.int .u64 5)).setCell ⟨gB, 17, none⟩ (.int .i64 3)).setCell ⟨gB, 34, none⟩ (.int .i64 3)).setCell ⟨gB, 39, none⟩ (.int .u64 1)).setCell ⟨gB, 50, none⟩ (.int .u64 0)).setCell ⟨gB, 61, none⟩ (.int .u64 22)).setCell ⟨gB, 72, none⟩ (.int .u64 22)).setCell ⟨gB, 90, none⟩ (.int .i64 0)).setCell ⟨gB, 102, none⟩ (.int .i64 2)).setCell ⟨gB, 112, none⟩ (.int .i64 3)).setCell ⟨gB, 124, none⟩ (.int .i64 9)).setCell ⟨gB, 139, none⟩ (.int .i64 3)).setCell ⟨gB, 152, none⟩ (.int .i64 0)).setCell ⟨gB, 165, none⟩ (.int .i64 2)).setCell ⟨gB, 179, none⟩ (.int .i64 0)).setCell ⟨gB, 183, none⟩ (.int .u64 27)).setCell ⟨gB, 199, none⟩ (.int .i64 0)).setCell ⟨gB, 213, none⟩ (.int .i64 0)) := ⟨_, rfl⟩
  have HB3 : Hid (Bk W3 gB 24 bad18) := Lib.hid (by rw [hW3]; exact ((((((((((((((((((HB.out.set 2 (.int .u64 5)).set 17 (.int .i64 3)).set 34 (.int .i64 3)).set 39 (.int .u64 1)).set 50 (.int .u64 0)).set 61 (.int .u64 22)).set 72 (.int .u64 22)).set 90 (.int .i64 0)).set 102 (.int .i64 2)).set 112 (.int .i64 3)).set 124 (.int .i64 9)).set 139 (.int .i64 3)).set 152 (.int .i64 0)).set 165 (.int .i64 2)).set 179 (.int .i64 0)).set 183 (.int .u64 27)).set 199 (.int .i64 0)).set 213 (.int .i64 0)).of_eq bad18_eq)
  have HP3 : Hid (Bk W3 w2.heap.size 24 pE.cells) := Lib.hid (by rw [hW3]; exact ((((((((((((((((((HPb.out.far (p := ⟨gB, 2, none⟩) (Ne.symm HNE.out) (.int .u64 5)).far (p := ⟨gB, 17, none⟩) (Ne.symm HNE.out) (.int .i64 3)).far (p := ⟨gB, 34, none⟩) (Ne.symm HNE.out) (.int .i64 3)).far (p := ⟨gB, 39, none⟩) (Ne.symm HNE.out) (.int .u64 1)).far (p := ⟨gB, 50, none⟩) (Ne.symm HNE.out) (.int .u64 0)).far (p := ⟨gB, 61, none⟩) (Ne.symm HNE.out) (.int .u64 22)).far (p := ⟨gB, 72, none⟩) (Ne.symm HNE.out) (.int .u64 22)).far (p := ⟨gB, 90, none⟩) (Ne.symm HNE.out) (.int .i64 0)).far (p := ⟨gB, 102, none⟩) (Ne.symm HNE.out) (.int .i64 2)).far (p := ⟨gB, 112, none⟩) (Ne.symm HNE.out) (.int .i64 3)).far (p := ⟨gB, 124, none⟩) (Ne.symm HNE.out) (.int .i64 9)).far (p := ⟨gB, 139, none⟩) (Ne.symm HNE.out) (.int .i64 3)).far (p := ⟨gB, 152, none⟩) (Ne.symm HNE.out) (.int .i64 0)).far (p := ⟨gB, 165, none⟩) (Ne.symm HNE.out) (.int .i64 2)).far (p := ⟨gB, 179, none⟩) (Ne.symm HNE.out) (.int .i64 0)).far (p := ⟨gB, 183, none⟩) (Ne.symm HNE.out) (.int .u64 27)).far (p := ⟨gB, 199, none⟩) (Ne.symm HNE.out) (.int .i64 0)).far (p := ⟨gB, 213, none⟩) (Ne.symm HNE.out) (.int .i64 0)))
  have HG3 : Hid (w.grownBy W3 none) := Lib.hid (by rw [hW3]; exact grown_up HGW.out (grownBy_set (grownBy_set (grownBy_set (grownBy_set (grownBy_set (grownBy_set (grownBy_set (grownBy_set (grownBy_set (grownBy_set (grownBy_set (grownBy_set (grownBy_set (grownBy_set (grownBy_set (grownBy_set (grownBy_set (grownBy_set (World.grownBy.refl W (some gB)) 2 (.int .u64 5)) 17 (.int .i64 3)) 34 (.int .i64 3)) 39 (.int .u64 1)) 50 (.int .u64 0)) 61 (.int .u64 22)) 72 (.int .u64 22)) 90 (.int .i64 0)) 102 (.int .i64 2)) 112 (.int .i64 3)) 124 (.int .i64 9)) 139 (.int .i64 3)) 152 (.int .i64 0)) 165 (.int .i64 2)) 179 (.int .i64 0)) 183 (.int .u64 27)) 199 (.int .i64 0)) 213 (.int .i64 0)) (fun g e => by injection e with e; subst e; exact HGE.out))
  rw [← hW3]
  clear hW3 hfz c0 c1 c2 c3 c4 c5 c6 c7 c8 c9 c10 c11 c12 c13 c14 c15 c16 c17
  have HST : Hid (Bk W3 gB 24 bad18 ∧ Bk W3 w2.heap.size 24 pE.cells ∧ w.grownBy W3 none) := Lib.hid ⟨HB3.out, HP3.out, HG3.out⟩
  clear HB HPb HGW HSZ HB3 HP3 HG3
  go_loopg [3] 18 (fun g s3 wx => ∃ j : Nat, j + g = 18 ∧ s3 = .int .i64 j ∧ Hid (Bk wx gB 24 bad18 ∧ Bk wx w2.heap.size 24 pE.cells ∧ w.grownBy wx none))
  case atStart => exact ⟨0, by omega, rfl, HST⟩
  case round =>
    obtain ⟨j, hj, rfl, HX⟩ := hrel
    cases gk with
    | succ m =>
      have hj18 : j < badL.length := by simp [badL]; omega
      obtain ⟨q, hq⟩ : ∃ q, q = badL[j] := ⟨_, rfl⟩
      have HAT : Hid (∀ (o : Nat) (u : Value), q.cells.toList[o]? = some u → bad18[j * 12 + o]? = some u) := Lib.hid (fun o u hu => by
        have hf := flatten_at (css := badL.map fun q => q.cells.toList) (m := 12) (fun i hi => by simp) (i := j) (by simpa using hj18) (j := o) (u := u) (by simpa [← hq] using hu)
        rw [← Array.getElem?_toList]
        exact hf)
      have HQ : Hid (mayP q = false ∧ q.ok) := Lib.hid ⟨by rw [hq]; exact badL_may _ (List.getElem_mem hj18), by rw [hq]; exact badL_ok _ (List.getElem_mem hj18)⟩
      have c0 : wr.cell? ⟨gB, j * 12, none⟩ = some (.int .u64 q.P) := (HX.out.1.cell _).trans (HAT.out 0 _ rfl)
      have c1 : wr.cell? ⟨gB, j * 12 + 1, none⟩ = some (.int .u64 q.Q) := (HX.out.1.cell _).trans (HAT.out 1 _ rfl)
      have c2 : wr.cell? ⟨gB, j * 12 + 2, none⟩ = some (.int .u64 q.G) := (HX.out.1.cell _).trans (HAT.out 2 _ rfl)
      have c3 : wr.cell? ⟨gB, j * 12 + 3, none⟩ = some (.int .u64 q.H) := (HX.out.1.cell _).trans (HAT.out 3 _ rfl)
      have c4 : wr.cell? ⟨gB, j * 12 + 4, none⟩ = some (.int .i64 q.Nodes) := (HX.out.1.cell _).trans (HAT.out 4 _ rfl)
      have c5 : wr.cell? ⟨gB, j * 12 + 5, none⟩ = some (.int .i64 q.N) := (HX.out.1.cell _).trans (HAT.out 5 _ rfl)
      have c6 : wr.cell? ⟨gB, j * 12 + 6, none⟩ = some (.int .i64 q.T) := (HX.out.1.cell _).trans (HAT.out 6 _ rfl)
      have c7 : wr.cell? ⟨gB, j * 12 + 7, none⟩ = some (.int .i64 q.K) := (HX.out.1.cell _).trans (HAT.out 7 _ rfl)
      have c8 : wr.cell? ⟨gB, j * 12 + 8, none⟩ = some (.int .i64 q.D) := (HX.out.1.cell _).trans (HAT.out 8 _ rfl)
      have c9 : wr.cell? ⟨gB, j * 12 + 9, none⟩ = some (.int .i64 q.R) := (HX.out.1.cell _).trans (HAT.out 9 _ rfl)
      have c10 : wr.cell? ⟨gB, j * 12 + 10, none⟩ = some (.int .i64 q.M) := (HX.out.1.cell _).trans (HAT.out 10 _ rfl)
      have c11 : wr.cell? ⟨gB, j * 12 + 11, none⟩ = some (.int .i64 q.X) := (HX.out.1.cell _).trans (HAT.out 11 _ rfl)
      have HM := Lib.hid (may_any q wr HQ.out.2 (HT.out.kept HX.out.2.2))
      rw [HQ.out.1] at HM
      have hji : (j : Int) < 18 := by omega
      have hj0 : (0 : Int) ≤ (j : Int) := by omega
      clear hq hj18 HST
      go_wp2_with fail
      refine HM.out.mono ?_
      rintro e' wn ⟨rfl, hg⟩
      have HFIN : Hid (Bk wn gB 24 bad18 ∧ Bk wn w2.heap.size 24 pE.cells ∧ w.grownBy wn none) := Lib.hid ⟨HX.out.1.grown hg (by simp), HX.out.2.1.grown hg (by simp), HX.out.2.2.trans hg⟩
      clear hg HX c0 c1 c2 c3 c4 c5 c6 c7 c8 c9 c10 c11
      go_wp2_with fail
      go_roundg m
      case measure => omega
      case rel => exact ⟨j + 1, by omega, by go_num, HFIN⟩
    | zero =>
      obtain rfl : j = 18 := by omega
      have HBL : Hid (Bk (wr.alloc (Obj.cells #[.int .u64 1, .int .u64 4, .int .u64 16, .int .u64 18, .int .u64 3, .int .u64 12, .int .u64 2, .int .u64 8, .int .u64 9, .int .u64 13, .int .u64 6, .int .u64 1] 22)) wr.heap.size 22 (nums powL).toArray) := Lib.hid (Bk.new wr _ _)
      have HST2 : Hid (Bk (wr.alloc (Obj.cells #[.int .u64 1, .int .u64 4, .int .u64 16, .int .u64 18, .int .u64 3, .int .u64 12, .int .u64 2, .int .u64 8, .int .u64 9, .int .u64 13, .int .u64 6, .int .u64 1] 22)) wr.heap.size 22 (nums powL).toArray ∧ Bk (wr.alloc (Obj.cells #[.int .u64 1, .int .u64 4, .int .u64 16, .int .u64 18, .int .u64 3, .int .u64 12, .int .u64 2, .int .u64 8, .int .u64 9, .int .u64 13, .int .u64 6, .int .u64 1] 22)) w2.heap.size 24 pE.cells ∧ w.grownBy (wr.alloc (Obj.cells #[.int .u64 1, .int .u64 4, .int .u64 16, .int .u64 18, .int .u64 3, .int .u64 12, .int .u64 2, .int .u64 8, .int .u64 9, .int .u64 13, .int .u64 6, .int .u64 1] 22)) none) := Lib.hid ⟨HBL.out, HX.out.2.1.alloc _, HX.out.2.2.trans (World.grownBy_alloc _ _ none)⟩
      clear HX HST HBL
      go_wp2_with fail
      go_loopg [111] 12 (fun g s111 wx => ∃ j : Nat, j + g = 12 ∧ s111 = .int .i64 j ∧ Hid (Bk wx wr.heap.size 22 (nums powL).toArray ∧ Bk wx w2.heap.size 24 pE.cells ∧ w.grownBy wx none))
      case atStart => exact ⟨0, by omega, rfl, HST2⟩
      case round =>
        rename World => wz
        obtain ⟨j, hj, rfl, HX⟩ := hrel
        cases gk with
        | succ m =>
          have hj12 : j < powL.length := by simp [powL]; omega
          obtain ⟨h1, h2, h3⟩ := powL_all j hj12
          obtain ⟨x, hx⟩ : ∃ x, x = powL[j] := ⟨_, rfl⟩
          have HPW := Lib.hid (fun w => power_any pE 4 (j : Int) w (by decide) ⟨by omega, by omega⟩)
          rw [h1] at HPW
          rw [← hx] at HPW h2 h3
          have HIS := Lib.hid (fun w => is_eq pE x true h2 w pE_ok h3)
          have c0 : wz.cell? ⟨wr.heap.size, j, none⟩ = some (.int .u64 x) := by rw [HX.out.1.cell j]; simp [nums, hj12, hx]
          have hp := HX.out.2.1.prule
          have hji : (j : Int) < 12 := by omega
          have hj0 : (0 : Int) ≤ (j : Int) := by omega
          have hd : (x != x) = false := by simp
          clear h1 h2 h3 hx hj12 HST2
          go_wp2_with fail
          refine (HPW.out _).mono ?_
          rintro e' wn ⟨rfl, hg⟩
          have HX1 : Hid (Bk wn wr.heap.size 22 (nums powL).toArray ∧ Bk wn w2.heap.size 24 pE.cells ∧ w.grownBy wn none) := Lib.hid ⟨HX.out.1.grown hg (by simp), HX.out.2.1.grown hg (by simp), HX.out.2.2.trans hg⟩
          have hp1 := HX1.out.2.1.prule
          clear hg HX c0 hp
          go_wp2_with fail
          refine (HIS.out _).mono ?_
          rintro e' wm ⟨rfl, hg⟩
          have HFIN : Hid (Bk wm wr.heap.size 22 (nums powL).toArray ∧ Bk wm w2.heap.size 24 pE.cells ∧ w.grownBy wm none) := Lib.hid ⟨HX1.out.1.grown hg (by simp), HX1.out.2.1.grown hg (by simp), HX1.out.2.2.trans hg⟩
          clear hg HX1 hp1
          go_wp2_with fail
          go_roundg m
          case measure => omega
          case rel => exact ⟨j + 1, by omega, by go_num, HFIN⟩
        | zero =>
          obtain rfl : j = 12 := by omega
          have HPz := Lib.hid HX.out.2.1
          have HGz := Lib.hid HX.out.2.2
          clear HX HST2
          go_upto_region 35 with fail
          obtain ⟨Wg, hWg⟩ : ∃ Wg, Wg = wz.alloc (Obj.cells #[.int .u64 2305843009213693951, .int .u64 1321, .int .u64 0, .int .u64 0, .int .i64 7, .int .i64 7, .int .i64 2, .int .i64 2, .int .i64 2, .int .i64 1, .int .i64 10, .int .i64 10] 24) := ⟨_, rfl⟩
          have HBg : Hid (Bk Wg wz.heap.size 24 gr0.cells) := Lib.hid (by rw [hWg]; exact Bk.new wz _ _)
          have HPg : Hid (Bk Wg w2.heap.size 24 pE.cells) := Lib.hid (by rw [hWg]; exact HPz.out.alloc _)
          have HGg : Hid (w.grownBy Wg none) := Lib.hid (by rw [hWg]; exact HGz.out.trans (World.grownBy_alloc _ _ none))
          have HLg : Hid (w2.heap.size < wz.heap.size ∧ w.heap.size ≤ wz.heap.size) := Lib.hid ⟨HPz.out.lt, HGz.out.size⟩
          rw [← hWg]
          clear hWg HPz HGz
          generalize wz.heap.size = gg at *
          obtain ⟨pg, hpg⟩ : ∃ pg, pg = gr0 := ⟨_, rfl⟩
          rw [← hpg] at HBg
          have HPG := Lib.hid hpg
          clear hpg
          have Hpg := HPG
          have HpgB := HBg
          have HPgpg := HPg
          have HGgpg := HGg
          obtain ⟨rpg, hrpg⟩ : ∃ r : Int, r = 234060095121088422 := ⟨_, rfl⟩
          have Hrpg := Lib.hid hrpg
          obtain ⟨rpk, hrpk⟩ : ∃ r : Int, r = 814652170479903933 := ⟨_, rfl⟩
          have Hrpk := Lib.hid hrpk
          clear hrpg hrpk HPG HBg HPg HGg
          have HpgC : Hid (∀ w', Wg.grownBy w' none → ∀ o, w'.cell? ⟨gg, o, none⟩ = (#[.int .u64 pg.P, .int .u64 pg.Q, .int .u64 pg.G, .int .u64 pg.H, .int .i64 pg.Nodes, .int .i64 pg.N, .int .i64 pg.T, .int .i64 pg.K, .int .i64 pg.D, .int .i64 pg.R, .int .i64 pg.M, .int .i64 pg.X] : Array Value)[o]?) := Lib.hid (fun w' hw => (HpgB.out.grown hw (by simp)).prule)
          have HpgQ : Hid (IntKind.u64.wrap (pg.P.tdiv pg.Q) = 1745528394559950) := Lib.hid (by rw [Hpg.out]; decide +kernel)
          have HpgR : Hid (powI 3 1745528394559950 pg.P = 234060095121088422) := Lib.hid (by rw [Hpg.out, powI_fast _ _ _ (by decide +kernel) (by decide)]; decide +kernel)
          have HpgP : Hid (∀ w', Wg.grownBy w' none → Calls Tryd.prog 14 #[pg.v, .int .u64 3, .int .u64 1745528394559950] w' fun e w'' => e = .returned (.int .u64 rpg) ∧ Wg.grownBy w'' none) := Lib.hid (fun w' hw => (power_any pg 3 1745528394559950 w' (by decide) (by decide)).mono fun _ _ ⟨he, hg⟩ => ⟨by rw [he, HpgR.out, Hrpg.out], hw.trans hg⟩)
          have hQ0 : ¬ pg.Q = 0 := by rw [Hpg.out]; decide
          refine wp_region_last (C := fun w' => Wg.grownBy w' none) 8 (by kernel_rfl) (by kernel_rfl) (grownBy_drewN (World.grownBy.refl Wg none) 1) ?_
          refine wpQuiet_val rfl pg.v (fun w' hw' => by have hc := HpgC.out w' hw'; go_simp) ?_
          refine wpQuiet_val rfl (.pointer (some ⟨gg, 0, none⟩)) (fun w' hw' => by have hc := HpgC.out w' hw'; go_simp) ?_
          refine wpQuiet_val rfl (.int .u64 pg.P) (fun w' hw' => by have hc := HpgC.out w' hw'; go_simp) ?_
          refine wpQuiet_val rfl (.pointer (some ⟨gg, 1, none⟩)) (fun w' hw' => by have hc := HpgC.out w' hw'; go_simp) ?_
          refine wpQuiet_val rfl (.int .u64 pg.Q) (fun w' hw' => by have hc := HpgC.out w' hw'; go_simp) ?_
          refine wpQuiet_val rfl (.int .u64 1745528394559950) (fun w' hw' => by have hc := HpgC.out w' hw'; go_simp; exact HpgQ.out) ?_
          refine wpQuiet_val rfl (.int .u64 rpg) (fun w' hw' => by have hc := HpgC.out w' hw'; go_simp; exact HpgP.out w' hw') ?_
          refine wpQuiet_val rfl (.pointer (some ⟨gg, 2, none⟩)) (fun w' hw' => by have hc := HpgC.out w' hw'; go_simp) ?_
          refine wpQuiet_nil ?_
          intro vpg hvpg
          have HpgV : Hid (Bk vpg gg 24 pg.cells) := Lib.hid (HpgB.out.grown hvpg (by simp))
          have HpgW : Hid (Bk vpg w2.heap.size 24 pE.cells) := Lib.hid (HPgpg.out.grown hvpg (by simp))
          have HpgG : Hid (w.grownBy vpg none) := Lib.hid (HGgpg.out.trans hvpg)
          have c2 : vpg.cell? ⟨gg, 2, none⟩ = some (.int .u64 pg.G) := HpgV.out.cell 2
          have f2 := HpgV.out.free 2
          clear hvpg hQ0
          go_upto_region 36 with fail
          obtain ⟨Wk, hWn⟩ : ∃ W', W' = vpg.setCell ⟨gg, 2, none⟩ (.int .u64 rpg) := ⟨_, rfl⟩
          obtain ⟨pk, hpk⟩ : ∃ q : Par, q = { pg with G := rpg } := ⟨_, rfl⟩
          have HpkB : Hid (Bk Wk gg 24 pk.cells) := Lib.hid (by rw [hWn, hpk]; exact HpgV.out.set 2 _)
          have HPgpk : Hid (Bk Wk w2.heap.size 24 pE.cells) := Lib.hid (by rw [hWn]; exact HpgW.out.far (by have := HLg.out.1; simp; omega) _)
          have HGgpk : Hid (w.grownBy Wk none) := Lib.hid (by rw [hWn]; exact grown_up HpgG.out (grownBy_set (World.grownBy.refl _ (some gg)) 2 _) (fun g e => by injection e with e; subst e; exact HLg.out.2))
          have Hpk : Hid (pk = { gr0 with G := 234060095121088422 }) := Lib.hid (by rw [hpk, Hpg.out, Hrpg.out])
          rw [← hWn]
          clear hWn hpk c2 f2
          have HpkC : Hid (∀ w', Wk.grownBy w' none → ∀ o, w'.cell? ⟨gg, o, none⟩ = (#[.int .u64 pk.P, .int .u64 pk.Q, .int .u64 pk.G, .int .u64 pk.H, .int .i64 pk.Nodes, .int .i64 pk.N, .int .i64 pk.T, .int .i64 pk.K, .int .i64 pk.D, .int .i64 pk.R, .int .i64 pk.M, .int .i64 pk.X] : Array Value)[o]?) := Lib.hid (fun w' hw => (HpkB.out.grown hw (by simp)).prule)
          have HpkQ : Hid (IntKind.u64.wrap (pk.P.tdiv pk.Q) = 1745528394559950) := Lib.hid (by rw [Hpk.out]; decide +kernel)
          have HpkR : Hid (powI 5 1745528394559950 pk.P = 814652170479903933) := Lib.hid (by rw [Hpk.out, powI_fast _ _ _ (by decide +kernel) (by decide)]; decide +kernel)
          have HpkP : Hid (∀ w', Wk.grownBy w' none → Calls Tryd.prog 14 #[pk.v, .int .u64 5, .int .u64 1745528394559950] w' fun e w'' => e = .returned (.int .u64 rpk) ∧ Wk.grownBy w'' none) := Lib.hid (fun w' hw => (power_any pk 5 1745528394559950 w' (by decide) (by decide)).mono fun _ _ ⟨he, hg⟩ => ⟨by rw [he, HpkR.out, Hrpk.out], hw.trans hg⟩)
          have hQ0 : ¬ pk.Q = 0 := by rw [Hpk.out]; decide
          refine wp_region_last (C := fun w' => Wk.grownBy w' none) 8 (by kernel_rfl) (by kernel_rfl) (grownBy_drewN (World.grownBy.refl Wk none) 1) ?_
          refine wpQuiet_val rfl pk.v (fun w' hw' => by have hc := HpkC.out w' hw'; go_simp) ?_
          refine wpQuiet_val rfl (.pointer (some ⟨gg, 0, none⟩)) (fun w' hw' => by have hc := HpkC.out w' hw'; go_simp) ?_
          refine wpQuiet_val rfl (.int .u64 pk.P) (fun w' hw' => by have hc := HpkC.out w' hw'; go_simp) ?_
          refine wpQuiet_val rfl (.pointer (some ⟨gg, 1, none⟩)) (fun w' hw' => by have hc := HpkC.out w' hw'; go_simp) ?_
          refine wpQuiet_val rfl (.int .u64 pk.Q) (fun w' hw' => by have hc := HpkC.out w' hw'; go_simp) ?_
          refine wpQuiet_val rfl (.int .u64 1745528394559950) (fun w' hw' => by have hc := HpkC.out w' hw'; go_simp; exact HpkQ.out) ?_
          refine wpQuiet_val rfl (.int .u64 rpk) (fun w' hw' => by have hc := HpkC.out w' hw'; go_simp; exact HpkP.out w' hw') ?_
          refine wpQuiet_val rfl (.pointer (some ⟨gg, 3, none⟩)) (fun w' hw' => by have hc := HpkC.out w' hw'; go_simp) ?_
          refine wpQuiet_nil ?_
          intro vpk hvpk
          have HpkV : Hid (Bk vpk gg 24 pk.cells) := Lib.hid (HpkB.out.grown hvpk (by simp))
          have HpkW : Hid (Bk vpk w2.heap.size 24 pE.cells) := Lib.hid (HPgpk.out.grown hvpk (by simp))
          have HpkG : Hid (w.grownBy vpk none) := Lib.hid (HGgpk.out.trans hvpk)
          have c2 : vpk.cell? ⟨gg, 3, none⟩ = some (.int .u64 pk.H) := HpkV.out.cell 3
          have f2 := HpkV.out.free 3
          clear hvpk hQ0
          go_upto_region 37 with fail
          obtain ⟨Wl, hWn⟩ : ∃ W', W' = vpk.setCell ⟨gg, 3, none⟩ (.int .u64 rpk) := ⟨_, rfl⟩
          obtain ⟨pl, hpl⟩ : ∃ q : Par, q = { pk with H := rpk } := ⟨_, rfl⟩
          have HplB : Hid (Bk Wl gg 24 pl.cells) := Lib.hid (by rw [hWn, hpl]; exact HpkV.out.set 3 _)
          have HPgpl : Hid (Bk Wl w2.heap.size 24 pE.cells) := Lib.hid (by rw [hWn]; exact HpkW.out.far (by have := HLg.out.1; simp; omega) _)
          have HGgpl : Hid (w.grownBy Wl none) := Lib.hid (by rw [hWn]; exact grown_up HpkG.out (grownBy_set (World.grownBy.refl _ (some gg)) 3 _) (fun g e => by injection e with e; subst e; exact HLg.out.2))
          have Hpl : Hid (pl = { gr1 with H := 814652170479903933 }) := Lib.hid (by rw [hpl, Hpk.out, Hrpk.out])
          rw [← hWn]
          clear hWn hpl c2 f2
          have HI1 := Lib.hid (fun w' => is_eq pl pl.G true (by rw [Hpl.out]; exact gr2_is _ (.inl rfl)) w' (by rw [Hpl.out]; exact gr2_ok) (by rw [Hpl.out]; decide))
          have HMY := Lib.hid (fun w' (hw : w.grownBy w' none) => may_any pl w' (by rw [Hpl.out]; exact gr2_ok) (HT.out.kept hw))
          rw [show mayP pl = true by rw [Hpl.out]; exact gr2_may] at HMY
          have hg1 : (pl.G != 1) = true := by rw [Hpl.out]; decide
          have hg2 : (pl.H != 1) = true := by rw [Hpl.out]; decide
          have HX0 : Hid (Bk Wl gg 24 pl.cells ∧ Bk Wl w2.heap.size 24 pE.cells ∧ w.grownBy Wl none) := Lib.hid ⟨HplB.out, HPgpl.out, HGgpl.out⟩
          have hr0 := HX0.out.1.prule
          clear HpgB HPgpg HGgpg HpkB HPgpk HGgpk HplB HPgpl HGgpl HpgC HpkC HpgP HpkP HpgV HpkV HpgW HpkW HpgG HpkG
          go_wp2_with fail
          refine (HI1.out _).mono ?_
          rintro e' x1 ⟨rfl, hg⟩
          have HX1 : Hid (Bk x1 gg 24 pl.cells ∧ Bk x1 w2.heap.size 24 pE.cells ∧ w.grownBy x1 none) := Lib.hid ⟨HX0.out.1.grown hg (by simp), HX0.out.2.1.grown hg (by simp), HX0.out.2.2.trans hg⟩
          have hr1 := HX1.out.1.prule
          clear hg hr0
          go_wp2_with fail
          refine (HMY.out _ HX1.out.2.2).mono ?_
          rintro e' x2 ⟨rfl, hg⟩
          have HX2 : Hid (Bk x2 gg 24 pl.cells ∧ Bk x2 w2.heap.size 24 pE.cells ∧ w.grownBy x2 none) := Lib.hid ⟨HX1.out.1.grown hg (by simp), HX1.out.2.1.grown hg (by simp), HX1.out.2.2.trans hg⟩
          have hr2 := HX2.out.1.prule
          clear hg hr1
          go_wp2_with fail
          refine (HI1.out _).mono ?_
          rintro e' x3 ⟨rfl, hg⟩
          have HPE3 : Hid (Bk x3 w2.heap.size 24 pE.cells ∧ w.grownBy x3 none) := Lib.hid ⟨HX2.out.2.1.grown hg (by simp), HX2.out.2.2.trans hg⟩
          clear hg hr2 hg1 hg2 HX0 HX1 HX2
          have HY0 : Hid (Bk (x3.alloc (Obj.cells p00.cells 24)) x3.heap.size 24 p00.cells ∧ Bk (x3.alloc (Obj.cells p00.cells 24)) w2.heap.size 24 pE.cells ∧ w.grownBy (x3.alloc (Obj.cells p00.cells 24)) none) := Lib.hid ⟨Bk.new x3 _ _, HPE3.out.1.alloc _, HPE3.out.2.trans (World.grownBy_alloc _ _ none)⟩
          go_upto_region 40 with fail
          obtain ⟨Y0, hY0⟩ : ∃ Y, Y = x3.alloc (Obj.cells #[.int .u64 0, .int .u64 0, .int .u64 0, .int .u64 0, .int .i64 0, .int .i64 0, .int .i64 0, .int .i64 0, .int .i64 0, .int .i64 0, .int .i64 0, .int .i64 0] 24) := ⟨_, rfl⟩
          have HY : Hid (Bk Y0 x3.heap.size 24 p00.cells ∧ Bk Y0 w2.heap.size 24 pE.cells ∧ w.grownBy Y0 none) := Lib.hid (by rw [hY0]; exact HY0.out)
          rw [← hY0]
          clear hY0 HY0 HPE3
          generalize x3.heap.size = gn at *
          have C1 := Lib.hid (fun w' => times_one p00 3 w' (by decide))
          rw [show timesI p00.P [3] = 0 by decide +kernel] at C1
          have C2 := Lib.hid (fun w' => power_any p00 3 0 w' (by decide) (by decide))
          rw [show powI 3 0 p00.P = 0 by decide +kernel] at C2
          have C3 := Lib.hid (fun w' => commit_any p00 (0, 0) w' p00_ok (by decide) (by decide))
          rw [show commitI p00 (0, 0) = 0 by decide +kernel] at C3
          have C4 := Lib.hid (fun w' => at_one p00 3 1 w' (by decide) (by decide))
          rw [show atI p00 [3] 1 = 0 by decide +kernel] at C4
          have C5 := Lib.hid (fun w' => times_nil pE w')
          rw [show timesI pE.P [] = 1 by decide +kernel] at C5
          have C6 := Lib.hid (fun w' => power_any pE 0 0 w' (by decide) (by decide))
          rw [show powI 0 0 pE.P = 1 by decide +kernel] at C6
          have C7 := Lib.hid (fun w' => is_eq p00 0 false (by decide +kernel) w' p00_ok (by decide))
          have C8 := Lib.hid (fun w' => at_two p23 4 9 2 w' (by decide) (by decide) (by decide))
          rw [show atI p23 [4, 9] 2 = 1 by decide +kernel] at C8
          have hn0 := HY.out.1.prule
          have hl0 := HY.out.1.lt
          have hm0 := HY.out.2.1.prule
          have hk0 := HY.out.2.1.lt
          go_wp2_with fail
          refine (C1.out Y0).mono ?_
          rintro e' y1 ⟨rfl, hg⟩
          have HY1 : Hid (Bk y1 gn 24 p00.cells ∧ Bk y1 w2.heap.size 24 pE.cells ∧ w.grownBy y1 none) := Lib.hid ⟨HY.out.1.grown hg (by simp), HY.out.2.1.grown hg (by simp), HY.out.2.2.trans hg⟩
          have hn1 := HY1.out.1.prule
          have hl1 := HY1.out.1.lt
          have hm1 := HY1.out.2.1.prule
          have hk1 := HY1.out.2.1.lt
          clear hg hn0 hl0 hm0 hk0
          go_wp2_with fail
          refine (C2.out _).mono ?_
          rintro e' y2 ⟨rfl, hg⟩
          have HY2 : Hid (Bk y2 gn 24 p00.cells ∧ Bk y2 w2.heap.size 24 pE.cells ∧ w.grownBy y2 none) := Lib.hid ⟨HY1.out.1.grown hg (by simp), HY1.out.2.1.grown hg (by simp), HY1.out.2.2.trans hg⟩
          have hn2 := HY2.out.1.prule
          have hl2 := HY2.out.1.lt
          have hm2 := HY2.out.2.1.prule
          have hk2 := HY2.out.2.1.lt
          clear hg hn1 hl1 hm1 hk1
          go_wp2_with fail
          refine (C3.out _).mono ?_
          rintro e' y3 ⟨rfl, hg⟩
          have HY3 : Hid (Bk y3 gn 24 p00.cells ∧ Bk y3 w2.heap.size 24 pE.cells ∧ w.grownBy y3 none) := Lib.hid ⟨HY2.out.1.grown hg (by simp), HY2.out.2.1.grown hg (by simp), HY2.out.2.2.trans hg⟩
          have hn3 := HY3.out.1.prule
          have hl3 := HY3.out.1.lt
          have hm3 := HY3.out.2.1.prule
          have hk3 := HY3.out.2.1.lt
          clear hg hn2 hl2 hm2 hk2
          go_wp2_with fail
          refine (C4.out y3).mono ?_
          rintro e' y4 ⟨rfl, hg⟩
          have HY4 : Hid (Bk y4 gn 24 p00.cells ∧ Bk y4 w2.heap.size 24 pE.cells ∧ w.grownBy y4 none) := Lib.hid ⟨HY3.out.1.grown hg (by simp), HY3.out.2.1.grown hg (by simp), HY3.out.2.2.trans hg⟩
          have hn4 := HY4.out.1.prule
          have hl4 := HY4.out.1.lt
          have hm4 := HY4.out.2.1.prule
          have hk4 := HY4.out.2.1.lt
          clear hg hn3 hl3 hm3 hk3
          go_wp2_with fail
          refine (C5.out _).mono ?_
          rintro e' y5 ⟨rfl, hg⟩
          have HY5 : Hid (Bk y5 gn 24 p00.cells ∧ Bk y5 w2.heap.size 24 pE.cells ∧ w.grownBy y5 none) := Lib.hid ⟨HY4.out.1.grown hg (by simp), HY4.out.2.1.grown hg (by simp), HY4.out.2.2.trans hg⟩
          have hn5 := HY5.out.1.prule
          have hl5 := HY5.out.1.lt
          have hm5 := HY5.out.2.1.prule
          have hk5 := HY5.out.2.1.lt
          clear hg hn4 hl4 hm4 hk4
          go_wp2_with fail
          refine (C6.out _).mono ?_
          rintro e' y6 ⟨rfl, hg⟩
          have HY6 : Hid (Bk y6 gn 24 p00.cells ∧ Bk y6 w2.heap.size 24 pE.cells ∧ w.grownBy y6 none) := Lib.hid ⟨HY5.out.1.grown hg (by simp), HY5.out.2.1.grown hg (by simp), HY5.out.2.2.trans hg⟩
          have hn6 := HY6.out.1.prule
          have hl6 := HY6.out.1.lt
          have hm6 := HY6.out.2.1.prule
          have hk6 := HY6.out.2.1.lt
          clear hg hn5 hl5 hm5 hk5
          go_wp2_with fail
          refine (C7.out _).mono ?_
          rintro e' y7 ⟨rfl, hg⟩
          have HY7 : Hid (Bk y7 gn 24 p00.cells ∧ Bk y7 w2.heap.size 24 pE.cells ∧ w.grownBy y7 none) := Lib.hid ⟨HY6.out.1.grown hg (by simp), HY6.out.2.1.grown hg (by simp), HY6.out.2.2.trans hg⟩
          have hn7 := HY7.out.1.prule
          have hl7 := HY7.out.1.lt
          have hm7 := HY7.out.2.1.prule
          have hk7 := HY7.out.2.1.lt
          clear hg hn6 hl6 hm6 hk6
          go_wp2_with fail
          refine (C8.out y7).mono ?_
          rintro e' y8 ⟨rfl, hg⟩
          have HY8 : Hid (Bk y8 gn 24 p00.cells ∧ Bk y8 w2.heap.size 24 pE.cells ∧ w.grownBy y8 none) := Lib.hid ⟨HY7.out.1.grown hg (by simp), HY7.out.2.1.grown hg (by simp), HY7.out.2.2.trans hg⟩
          have hn8 := HY8.out.1.prule
          have hl8 := HY8.out.1.lt
          have hm8 := HY8.out.2.1.prule
          have hk8 := HY8.out.2.1.lt
          clear hg hn7 hl7 hm7 hk7
          go_wp2
          go_ret
          exact ⟨rfl, HY8.out.2.2⟩
end Go.Proofs.YtnjbigbiclfcoaaDoor
