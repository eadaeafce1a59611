/- consistorylaw30.ExtractNames, walked: closed (printed by mk_xnm.py and mkt.py). -/
import Derived.Test.YtlhjbllfcbojmaaDoorYExtractTellsCard
namespace Go.Proofs.YtlhjbllfcbojmaaDoor
open Go Go.RowKit Go.Shelf

abbrev cP' (a b c d : Int) : Obj := .cells #[.int .u64 a, .int .u64 b, .int .u64 c, .int .u64 d] 26
abbrev oP (a b : Int) : Obj := .cells #[.int .u64 a, .int .u64 b] 26
theorem slQ2 (w : World) (a b c d : Int) (ha : U64 a ∧ U64 b) (hc : U64 c ∧ U64 d) : Sl encP TT (w.alloc (cP' a b c d)) (.slice (some ⟨w.heap.size, 0, none⟩) 2 2) [(a, b), (c, d)] := Sl.build [[.int .u64 a, .int .u64 b], [.int .u64 c, .int .u64 d]] rfl ⟨⟨rfl, ha⟩, ⟨rfl, hc⟩, trivial⟩ rfl (by decide)
/-- What stands through the walk. -/
structure XS (gp g2 g3 g4 g5 : Nat) (W : World) : Prop where
  par : Bk W gp 24 ps.cells
  tabs : TabsAt W
  s2 : Sl encP TT W (.slice (some ⟨g2, 0, none⟩) 2 2) opA
  s3 : Sl encP TT W (.slice (some ⟨g3, 0, none⟩) 2 2) shO
  s4 : Sl encP TT W (.slice (some ⟨g4, 0, none⟩) 2 2) shT
  s5 : Sl encH TT W (.slice (some ⟨g5, 0, none⟩) 2 2) heldL
theorem XS.grown {gp g2 g3 g4 g5 : Nat} {W W' : World} (h : XS gp g2 g3 g4 g5 W) (hg : W.grownBy W' none) : XS gp g2 g3 g4 g5 W' := ⟨h.par.grown hg (by simp), h.tabs.kept hg, h.s2.kept hg, h.s3.kept hg, h.s4.kept hg, h.s5.kept hg⟩
theorem op2 {W : World} {g : Nat} (h : Sl encP TT W (.slice (some ⟨g, 0, none⟩) 2 2) opA) : W.cell? ⟨g, 0, none⟩ = some (.int .u64 5) ∧ W.cell? ⟨g, 1, none⟩ = some (.int .u64 2) := by
  obtain ⟨g', o', c', e, _, _, h1, h2, _⟩ := h.atP (k := 0) (by decide)
  injection e with e1 _ _
  injection e1 with e1
  injection e1 with e1 e2 _
  subst e1 e2
  exact ⟨h1, h2⟩
set_option maxRecDepth 100000 in
set_option maxHeartbeats 8000000 in
theorem extractNames_any (w : World) (hT : TabsAt w) : Calls Tryd.prog 4 #[] w fun e w' => e = .returned (.bool true) ∧ w.grownBy w' none := by
  have HTB := Lib.hid hT
  clear hT
  go_enter Tryd.func4, Tryd.ntmps4
  go_wp2_with fail
  refine (small30_any w).mono ?_
  rintro e w1 ⟨rfl, hg1⟩
  obtain ⟨w2, hw2⟩ : ∃ y, y = w1.alloc (Obj.cells ps.cells 24) := ⟨_, rfl⟩
  obtain ⟨gp, hgp⟩ : ∃ y, y = w1.heap.size := ⟨_, rfl⟩
  have HBp : Hid (Bk w2 gp 24 ps.cells) := Lib.hid (by rw [hw2, hgp]; exact Bk.new _ _ _)
  have HG2 : Hid (w.grownBy w2 none) := Lib.hid (by rw [hw2]; exact hg1.trans (World.grownBy_alloc _ _ none))
  clear hg1
  go_upto_region 2 with (fail)
  first | rw [← hw2, ← hgp] | (have hw2' : w1.alloc (Obj.cells #[.int .u64 23, .int .u64 11, .int .u64 4, .int .u64 9, .int .i64 4, .int .i64 4, .int .i64 1, .int .i64 1, .int .i64 1, .int .i64 1, .int .i64 1, .int .i64 1] 24) = w2 := hw2.symm; rw [hw2', ← hgp]; clear hw2')
  clear hw2 hgp
  go_wp2_with fail
  refine (works30_any w2 (HTB.out.kept HG2.out)).mono ?_
  rintro e w3 ⟨rfl, hg3⟩
  have HB3 := Lib.hid (HBp.out.grown hg3 (by simp))
  have HG3 : Hid (w.grownBy w3 none) := Lib.hid (HG2.out.trans hg3)
  clear hg3 HBp HG2
  obtain ⟨w4, hw4⟩ : ∃ y, y = w3.alloc (cP' 5 2 7 5) := ⟨_, rfl⟩
  obtain ⟨g2, hg2⟩ : ∃ y, y = w3.heap.size := ⟨_, rfl⟩
  have Hw4 : Hid (w3.grownBy w4 none) := Lib.hid (by rw [hw4]; exact World.grownBy_alloc _ _ none)
  have HS2 : Hid (Sl encP TT w4 (.slice (some ⟨g2, 0, none⟩) 2 2) [(5, 2), (7, 5)]) := Lib.hid (by rw [hw4, hg2]; exact slQ2 _ 5 2 7 5 (u6 _ _) (u6 _ _))
  go_upto_region 5 with (fail)
  rw [← hw4, ← hg2]
  clear hw4 hg2
  obtain ⟨w5, hw5⟩ : ∃ y, y = w4.alloc (cP' 6 5 0 0) := ⟨_, rfl⟩
  obtain ⟨g3, hg3⟩ : ∃ y, y = w4.heap.size := ⟨_, rfl⟩
  have Hw5 : Hid (w4.grownBy w5 none) := Lib.hid (by rw [hw5]; exact World.grownBy_alloc _ _ none)
  have HS3 : Hid (Sl encP TT w5 (.slice (some ⟨g3, 0, none⟩) 2 2) [(6, 5), (0, 0)]) := Lib.hid (by rw [hw5, hg3]; exact slQ2 _ 6 5 0 0 (u6 _ _) (u6 _ _))
  go_upto_region 6 with (fail)
  rw [← hw5, ← hg3]
  clear hw5 hg3
  obtain ⟨w6, hw6⟩ : ∃ y, y = w5.alloc (cP' 7 8 4 6) := ⟨_, rfl⟩
  obtain ⟨g4, hg4⟩ : ∃ y, y = w5.heap.size := ⟨_, rfl⟩
  have Hw6 : Hid (w5.grownBy w6 none) := Lib.hid (by rw [hw6]; exact World.grownBy_alloc _ _ none)
  have HS4 : Hid (Sl encP TT w6 (.slice (some ⟨g4, 0, none⟩) 2 2) [(7, 8), (4, 6)]) := Lib.hid (by rw [hw6, hg4]; exact slQ2 _ 7 8 4 6 (u6 _ _) (u6 _ _))
  go_upto_region 7 with (fail)
  rw [← hw6, ← hg4]
  clear hw6 hg4
  obtain ⟨w7, hw7⟩ : ∃ y, y = w6.alloc (.cells #[.int .i64 2, .int .i64 2, .slice (some ⟨g4, 0, none⟩) 2 2, .int .i64 2, .int .i64 1, .slice (some ⟨g3, 0, none⟩) 2 2] 44) := ⟨_, rfl⟩
  obtain ⟨g5, hg5⟩ : ∃ y, y = w6.heap.size := ⟨_, rfl⟩
  have Hw7 : Hid (w6.grownBy w7 none) := Lib.hid (by rw [hw7]; exact World.grownBy_alloc _ _ none)
  have HX : Hid (XS gp g2 g3 g4 g5 w7 ∧ w.grownBy w7 none) := Lib.hid (by
    have k1 := ((Hw4.out.trans Hw5.out).trans Hw6.out)
    have k3 := HS3.out.kept Hw6.out
    have k4 := HS4.out
    refine ⟨⟨((HB3.out.grown k1 (by simp)).grown Hw7.out (by simp)), (HTB.out.kept HG3.out).kept (k1.trans Hw7.out), (HS2.out.kept (Hw5.out.trans Hw6.out)).kept Hw7.out, k3.kept Hw7.out, k4.kept Hw7.out, ?_⟩, HG3.out.trans (k1.trans Hw7.out)⟩
    rw [hw7, hg5]
    exact Sl.build [[.int .i64 2, .int .i64 2, .slice (some ⟨g4, 0, none⟩) 2 2], [.int .i64 2, .int .i64 1, .slice (some ⟨g3, 0, none⟩) 2 2]] rfl ⟨⟨_, rfl, ⟨by decide, by decide⟩, ⟨by decide, by decide⟩, k4⟩, ⟨_, rfl, ⟨by decide, by decide⟩, ⟨by decide, by decide⟩, k3⟩, trivial⟩ rfl (by decide))
  go_upto_region 8 with (fail)
  rw [← hw7, ← hg5]
  clear hw7 hg5 HTB HB3 HG3 HS2 HS3 HS4 Hw4 Hw5 Hw6 Hw7
  have hp := HX.out.1.par.prule
  go_wp2_with fail
  refine (xoff_no off_A ps_ok HX.out.1.tabs HX.out.1.s2 HX.out.1.s5).mono ?_
  rintro e v9 ⟨rfl, hg⟩
  clear hp
  have HXn : Hid (XS gp g2 g3 g4 g5 v9 ∧ w.grownBy v9 none) := Lib.hid ⟨HX.out.1.grown hg, HX.out.2.trans hg⟩
  clear HX
  have HX := HXn
  clear HXn
  clear hg
  obtain ⟨v10, hv10⟩ : ∃ y, y = (v9.alloc (oP 0 0)).alloc (oP 0 0) := ⟨_, rfl⟩
  have hg : v9.grownBy v10 none := by rw [hv10]; exact (World.grownBy_alloc _ _ none).trans (World.grownBy_alloc _ _ none)
  go_upto_region 9 with (fail)
  rw [← hv10]
  clear hv10
  have HXn : Hid (XS gp g2 g3 g4 g5 v10 ∧ w.grownBy v10 none) := Lib.hid ⟨HX.out.1.grown hg, HX.out.2.trans hg⟩
  clear HX
  have HX := HXn
  clear HXn
  clear hg
  have hp := HX.out.1.par.prule
  go_wp2_with fail
  refine (xlook_c look_A HX.out.1.tabs HX.out.1.s2 HX.out.1.s5).mono ?_
  rintro e v11 ⟨rfl, hg⟩
  clear hp
  have HXn : Hid (XS gp g2 g3 g4 g5 v11 ∧ w.grownBy v11 none) := Lib.hid ⟨HX.out.1.grown hg, HX.out.2.trans hg⟩
  clear HX
  have HX := HXn
  clear HXn
  clear hg
  go_upto_region 12 with (fail)
  obtain ⟨v12, hv12⟩ : ∃ y, y = v11.alloc (cP' 1 8 7 5) := ⟨_, rfl⟩
  have HSB : Hid (Sl encP TT v12 (.slice (some ⟨v11.heap.size, 0, none⟩) 2 2) [(1, 8), (7, 5)]) := Lib.hid (by rw [hv12]; exact slQ2 _ 1 8 7 5 (u6 _ _) (u6 _ _))
  have HGB : Hid (v11.grownBy v12 none) := Lib.hid (by rw [hv12]; exact World.grownBy_alloc _ _ none)
  have hp := HX.out.1.par.prule
  go_wp2_with fail
  rw [← hv12]
  clear hv12 hp
  have HXn : Hid (XS gp g2 g3 g4 g5 v12 ∧ w.grownBy v12 none) := Lib.hid ⟨HX.out.1.grown HGB.out, HX.out.2.trans HGB.out⟩
  clear HX
  have HX := HXn
  clear HXn
  refine (xoff_is off_B ps_ok HX.out.1.tabs HSB.out HX.out.1.s5).mono ?_
  rintro e v13 ⟨rfl, hg⟩
  have HXn : Hid (XS gp g2 g3 g4 g5 v13 ∧ w.grownBy v13 none) := Lib.hid ⟨HX.out.1.grown hg, HX.out.2.trans hg⟩
  clear HX
  have HX := HXn
  clear HXn
  clear hg HSB HGB
  obtain ⟨v14, hv14⟩ : ∃ y, y = (v13.alloc (oP 5 2)).alloc (oP 1 8) := ⟨_, rfl⟩
  have hg : v13.grownBy v14 none := by rw [hv14]; exact (World.grownBy_alloc _ _ none).trans (World.grownBy_alloc _ _ none)
  obtain ⟨ga, hga⟩ : ∃ y, y = v13.heap.size := ⟨_, rfl⟩
  have HBA : Hid (Bk v14 ga 26 #[.int .u64 5, .int .u64 2] ∧ Bk v14 (ga + 1) 26 #[.int .u64 1, .int .u64 8]) := Lib.hid (by
    rw [hv14, hga]
    refine ⟨(Bk.new _ _ _).alloc _, ?_⟩
    have h := Bk.new (v13.alloc (oP 5 2)) 26 #[.int .u64 1, .int .u64 8]
    rw [World.size_alloc] at h
    exact h)
  go_upto_region 13 with (fail)
  rw [← hv14, ← hga]
  clear hv14 hga
  have HXn : Hid (XS gp g2 g3 g4 g5 v14 ∧ w.grownBy v14 none) := Lib.hid ⟨HX.out.1.grown hg, HX.out.2.trans hg⟩
  clear HX
  have HX := HXn
  clear HXn
  clear hg
  obtain ⟨v15, hv15⟩ : ∃ y, y = v14.alloc (cP' 1 8 7 5) := ⟨_, rfl⟩
  have HSB : Hid (Sl encP TT v15 (.slice (some ⟨v14.heap.size, 0, none⟩) 2 2) [(1, 8), (7, 5)]) := Lib.hid (by rw [hv15]; exact slQ2 _ 1 8 7 5 (u6 _ _) (u6 _ _))
  have HGB : Hid (v14.grownBy v15 none) := Lib.hid (by rw [hv15]; exact World.grownBy_alloc _ _ none)
  have hp := HX.out.1.par.prule
  go_wp2_with fail
  rw [← hv15]
  clear hv15 hp
  have HXn : Hid (XS gp g2 g3 g4 g5 v15 ∧ w.grownBy v15 none) := Lib.hid ⟨HX.out.1.grown HGB.out, HX.out.2.trans HGB.out⟩
  have HBAn : Hid (Bk v15 ga 26 #[.int .u64 5, .int .u64 2] ∧ Bk v15 (ga + 1) 26 #[.int .u64 1, .int .u64 8]) := Lib.hid (⟨HBA.out.1.grown HGB.out (by simp), HBA.out.2.grown HGB.out (by simp)⟩)
  clear HX
  have HX := HXn
  clear HXn
  clear HBA
  have HBA := HBAn
  clear HBAn
  refine (xlook_c look_B HX.out.1.tabs HSB.out HX.out.1.s5).mono ?_
  rintro e v16 ⟨rfl, hg⟩
  have HXn : Hid (XS gp g2 g3 g4 g5 v16 ∧ w.grownBy v16 none) := Lib.hid ⟨HX.out.1.grown hg, HX.out.2.trans hg⟩
  have HBAn : Hid (Bk v16 ga 26 #[.int .u64 5, .int .u64 2] ∧ Bk v16 (ga + 1) 26 #[.int .u64 1, .int .u64 8]) := Lib.hid (⟨HBA.out.1.grown hg (by simp), HBA.out.2.grown hg (by simp)⟩)
  clear HX
  have HX := HXn
  clear HXn
  clear HBA
  have HBA := HBAn
  clear HBAn
  clear hg HSB HGB
  have ra := HBA.out.1.rule
  have rb := HBA.out.2.rule
  go_upto_region 16 with (fail)
  clear ra rb HBA
  obtain ⟨v17, hv17⟩ : ∃ y, y = v16.alloc (cP' 1 2 7 5) := ⟨_, rfl⟩
  have HSB : Hid (Sl encP TT v17 (.slice (some ⟨v16.heap.size, 0, none⟩) 2 2) [(1, 2), (7, 5)]) := Lib.hid (by rw [hv17]; exact slQ2 _ 1 2 7 5 (u6 _ _) (u6 _ _))
  have HGB : Hid (v16.grownBy v17 none) := Lib.hid (by rw [hv17]; exact World.grownBy_alloc _ _ none)
  have hp := HX.out.1.par.prule
  go_wp2_with fail
  rw [← hv17]
  clear hv17 hp
  have HXn : Hid (XS gp g2 g3 g4 g5 v17 ∧ w.grownBy v17 none) := Lib.hid ⟨HX.out.1.grown HGB.out, HX.out.2.trans HGB.out⟩
  clear HX
  have HX := HXn
  clear HXn
  refine (xoff_is off_C ps_ok HX.out.1.tabs HSB.out HX.out.1.s5).mono ?_
  rintro e v18 ⟨rfl, hg⟩
  have HXn : Hid (XS gp g2 g3 g4 g5 v18 ∧ w.grownBy v18 none) := Lib.hid ⟨HX.out.1.grown hg, HX.out.2.trans hg⟩
  clear HX
  have HX := HXn
  clear HXn
  clear hg HSB HGB
  go_upto_region 17 with (fail)
  obtain ⟨v19, hv19⟩ : ∃ y, y = v18.alloc (cP' 1 2 7 5) := ⟨_, rfl⟩
  have HSB : Hid (Sl encP TT v19 (.slice (some ⟨v18.heap.size, 0, none⟩) 2 2) [(1, 2), (7, 5)]) := Lib.hid (by rw [hv19]; exact slQ2 _ 1 2 7 5 (u6 _ _) (u6 _ _))
  have HGB : Hid (v18.grownBy v19 none) := Lib.hid (by rw [hv19]; exact World.grownBy_alloc _ _ none)
  have hp := HX.out.1.par.prule
  go_wp2_with fail
  rw [← hv19]
  clear hv19 hp
  have HXn : Hid (XS gp g2 g3 g4 g5 v19 ∧ w.grownBy v19 none) := Lib.hid ⟨HX.out.1.grown HGB.out, HX.out.2.trans HGB.out⟩
  clear HX
  have HX := HXn
  clear HXn
  refine (xlook_c look_C HX.out.1.tabs HSB.out HX.out.1.s5).mono ?_
  rintro e v20 ⟨rfl, hg⟩
  have HXn : Hid (XS gp g2 g3 g4 g5 v20 ∧ w.grownBy v20 none) := Lib.hid ⟨HX.out.1.grown hg, HX.out.2.trans hg⟩
  clear HX
  have HX := HXn
  clear HXn
  clear hg HSB HGB
  go_upto_region 20 with (fail)
  obtain ⟨v21, hv21⟩ : ∃ y, y = v20.alloc (.cells #[.int .i64 0, .int .i64 1, .slice (some ⟨g3, 0, none⟩) 2 2, .int .i64 0, .int .i64 2, .slice (some ⟨g3, 0, none⟩) 2 2, .int .i64 65, .int .i64 1, .slice (some ⟨g3, 0, none⟩) 2 2, .int .i64 65, .int .i64 2, .slice (some ⟨g3, 0, none⟩) 2 2, .int .i64 1, .int .i64 0, .slice (some ⟨g3, 0, none⟩) 2 2, .int .i64 1, .int .i64 8, .slice (some ⟨g3, 0, none⟩) 2 2, .int .i64 1, .int .i64 1, .slice (some ⟨g3, 0, none⟩) 2 2, .int .i64 1, .int .i64 1, .slice (some ⟨g4, 0, none⟩) 2 2, .int .i64 1, .int .i64 2, .slice (some ⟨g3, 0, none⟩) 1 2, .int .i64 3, .int .i64 2, .slice (some ⟨g4, 0, none⟩) 2 2] 44) := ⟨_, rfl⟩
  obtain ⟨gb, hgb⟩ : ∃ y, y = v20.heap.size := ⟨_, rfl⟩
  have hg : v20.grownBy v21 none := by rw [hv21]; exact World.grownBy_alloc _ _ none
  have HSD : Hid (Sl encH TT v21 (.slice (some ⟨gb, 0, none⟩) 10 10) badL) := Lib.hid (by
    rw [hv21, hgb]
    exact Sl.build [[.int .i64 0, .int .i64 1, .slice (some ⟨g3, 0, none⟩) 2 2], [.int .i64 0, .int .i64 2, .slice (some ⟨g3, 0, none⟩) 2 2], [.int .i64 65, .int .i64 1, .slice (some ⟨g3, 0, none⟩) 2 2], [.int .i64 65, .int .i64 2, .slice (some ⟨g3, 0, none⟩) 2 2], [.int .i64 1, .int .i64 0, .slice (some ⟨g3, 0, none⟩) 2 2], [.int .i64 1, .int .i64 8, .slice (some ⟨g3, 0, none⟩) 2 2], [.int .i64 1, .int .i64 1, .slice (some ⟨g3, 0, none⟩) 2 2], [.int .i64 1, .int .i64 1, .slice (some ⟨g4, 0, none⟩) 2 2], [.int .i64 1, .int .i64 2, .slice (some ⟨g3, 0, none⟩) 1 2], [.int .i64 3, .int .i64 2, .slice (some ⟨g4, 0, none⟩) 2 2]] rfl ⟨⟨_, rfl, ⟨by decide, by decide⟩, ⟨by decide, by decide⟩, HX.out.1.s3⟩, ⟨_, rfl, ⟨by decide, by decide⟩, ⟨by decide, by decide⟩, HX.out.1.s3⟩, ⟨_, rfl, ⟨by decide, by decide⟩, ⟨by decide, by decide⟩, HX.out.1.s3⟩, ⟨_, rfl, ⟨by decide, by decide⟩, ⟨by decide, by decide⟩, HX.out.1.s3⟩, ⟨_, rfl, ⟨by decide, by decide⟩, ⟨by decide, by decide⟩, HX.out.1.s3⟩, ⟨_, rfl, ⟨by decide, by decide⟩, ⟨by decide, by decide⟩, HX.out.1.s3⟩, ⟨_, rfl, ⟨by decide, by decide⟩, ⟨by decide, by decide⟩, HX.out.1.s3⟩, ⟨_, rfl, ⟨by decide, by decide⟩, ⟨by decide, by decide⟩, HX.out.1.s4⟩, ⟨_, rfl, ⟨by decide, by decide⟩, ⟨by decide, by decide⟩, (HX.out.1.s3.take 1 (by decide))⟩, ⟨_, rfl, ⟨by decide, by decide⟩, ⟨by decide, by decide⟩, HX.out.1.s4⟩, trivial⟩ rfl (by decide))
  go_upto_region 21 with (fail)
  rw [← hv21, ← hgb]
  clear hv21 hgb
  have HXn : Hid (XS gp g2 g3 g4 g5 v21 ∧ w.grownBy v21 none) := Lib.hid ⟨HX.out.1.grown hg, HX.out.2.trans hg⟩
  clear HX
  have HX := HXn
  clear HXn
  clear hg
  have hp := HX.out.1.par.prule
  go_wp2_with fail
  refine (xoff_no off_D ps_ok HX.out.1.tabs HX.out.1.s2 HSD.out).mono ?_
  rintro e v22 ⟨rfl, hg⟩
  clear hp
  have HXn : Hid (XS gp g2 g3 g4 g5 v22 ∧ w.grownBy v22 none) := Lib.hid ⟨HX.out.1.grown hg, HX.out.2.trans hg⟩
  have HSDn : Hid (Sl encH TT v22 (.slice (some ⟨gb, 0, none⟩) 10 10) badL) := Lib.hid (HSD.out.kept hg)
  clear HX
  have HX := HXn
  clear HXn
  clear HSD
  have HSD := HSDn
  clear HSDn
  clear hg
  clear HSD
  obtain ⟨v23, hv23⟩ : ∃ y, y = v22.alloc (.cells #[.int .u64 23, .int .u64 11, .int .u64 4, .int .u64 9, .int .i64 4, .int .i64 3, .int .i64 1, .int .i64 1, .int .i64 1, .int .i64 1, .int .i64 1, .int .i64 1] 24) := ⟨_, rfl⟩
  obtain ⟨gq, hgq⟩ : ∃ y, y = v22.heap.size := ⟨_, rfl⟩
  have hg : v22.grownBy v23 none := by rw [hv23]; exact World.grownBy_alloc _ _ none
  have HBQ : Hid (Bk v23 gq 24 poddX.cells) := Lib.hid (by rw [hv23, hgq]; exact Bk.new _ _ _)
  have hp := HX.out.1.par.prule
  go_upto_region 24 with (fail)
  clear hp
  first | rw [← hv23, ← hgq] | skip
  clear hv23 hgq
  have HXn : Hid (XS gp g2 g3 g4 g5 v23 ∧ w.grownBy v23 none) := Lib.hid ⟨HX.out.1.grown hg, HX.out.2.trans hg⟩
  clear HX
  have HX := HXn
  clear HXn
  clear hg
  obtain ⟨v24, hv24⟩ : ∃ y, y = v23.alloc (cP' 0 0 0 0) := ⟨_, rfl⟩
  have HSB : Hid (Sl encP TT v24 (.slice (some ⟨v23.heap.size, 0, none⟩) 2 2) [(0, 0), (0, 0)]) := Lib.hid (by rw [hv24]; exact slQ2 _ 0 0 0 0 (u6 _ _) (u6 _ _))
  have HGB : Hid (v23.grownBy v24 none) := Lib.hid (by rw [hv24]; exact World.grownBy_alloc _ _ none)
  have hp := HBQ.out.prule
  go_wp2_with fail
  rw [← hv24]
  clear hv24 hp
  have HXn : Hid (XS gp g2 g3 g4 g5 v24 ∧ w.grownBy v24 none) := Lib.hid ⟨HX.out.1.grown HGB.out, HX.out.2.trans HGB.out⟩
  have HBQn : Hid (Bk v24 gq 24 poddX.cells) := Lib.hid (HBQ.out.grown HGB.out (by simp))
  clear HX
  have HX := HXn
  clear HXn
  clear HBQ
  have HBQ := HBQn
  clear HBQn
  refine (xoff_no off_E poddX_ok HX.out.1.tabs HSB.out HX.out.1.s5).mono ?_
  rintro e v25 ⟨rfl, hg⟩
  have HXn : Hid (XS gp g2 g3 g4 g5 v25 ∧ w.grownBy v25 none) := Lib.hid ⟨HX.out.1.grown hg, HX.out.2.trans hg⟩
  have HBQn : Hid (Bk v25 gq 24 poddX.cells) := Lib.hid (HBQ.out.grown hg (by simp))
  clear HX
  have HX := HXn
  clear HXn
  clear HBQ
  have HBQ := HBQn
  clear HBQn
  clear hg HSB HGB
  obtain ⟨v26, hv26⟩ : ∃ y, y = (v25.alloc (oP 0 0)).alloc (oP 0 0) := ⟨_, rfl⟩
  have hg : v25.grownBy v26 none := by rw [hv26]; exact (World.grownBy_alloc _ _ none).trans (World.grownBy_alloc _ _ none)
  go_upto_region 25 with (fail)
  rw [← hv26]
  clear hv26
  have HXn : Hid (XS gp g2 g3 g4 g5 v26 ∧ w.grownBy v26 none) := Lib.hid ⟨HX.out.1.grown hg, HX.out.2.trans hg⟩
  have HBQn : Hid (Bk v26 gq 24 poddX.cells) := Lib.hid (HBQ.out.grown hg (by simp))
  clear HX
  have HX := HXn
  clear HXn
  clear HBQ
  have HBQ := HBQn
  clear HBQn
  clear hg
  refine FR.wp_region_late (twoBoxLt 26 26 #[.int .u64 0, .int .u64 0] #[.int .u64 0, .int .u64 0] #[.int .u64 0, .int .u64 0] #[.int .u64 0, .int .u64 0] v26.drew) [9, 10, 11, 12] 14 (by kernel_rfl) (by kernel_rfl) (by kernel_rfl) TwoC.start ?_
  -- op 0 (slot 172): load
  refine FR.LateR.mono (FR.Qv.eq (ps.v)) [] (by kernel_rfl) (by rfl) (fun vs w' hC => ?_) ?_
  · refine FR.askl_do rfl fun K hK => ?_
    have hC : TwoC _ _ _ _ _ _ _ vs w' := hC
    have HXW := HX.out.1.grown ((grown_drewN' v26 1).trans hC.gr)
    have hp := HXW.par.prule
    clear HXW
    go_simp
    exact hK _ _ rfl ⟨rfl, World.grownBy.refl _ none⟩
  -- op 1 (slot 173): move
  refine FR.LateR.mono (FR.Qv.eq (.slice (some ⟨g2, 0, none⟩) 2 2)) [] (by kernel_rfl) (by rfl) (fun vs w' hC => ?_) ?_
  · refine FR.askl_do rfl fun K hK => ?_
    go_simp
    exact hK _ _ rfl ⟨rfl, World.grownBy.refl _ none⟩
  -- op 2 (slot 174): slice
  refine FR.LateR.mono (FR.Qv.eq (.slice (some ⟨g2, 0, none⟩) 1 2)) [(1, 173)] (by kernel_rfl) (by rfl) (fun vs w' hC => ?_) ?_
  · intro x173 h173
    have e173 : x173 = .slice (some ⟨g2, 0, none⟩) 2 2 := h173
    clear h173
    subst e173
    refine FR.askl_do rfl fun K hK => ?_
    go_simp
    exact hK _ _ rfl ⟨rfl, World.grownBy.refl _ none⟩
  -- op 3 (slot 175): move
  refine FR.LateR.mono (FR.Qv.eq (.slice (some ⟨g5, 0, none⟩) 2 2)) [] (by kernel_rfl) (by rfl) (fun vs w' hC => ?_) ?_
  · refine FR.askl_do rfl fun K hK => ?_
    go_simp
    exact hK _ _ rfl ⟨rfl, World.grownBy.refl _ none⟩
  -- op 4 (slot 176): call
  refine FR.LateR.mono (FR.Qv.eq (.tuple #[.agg #[.int .u64 0, .int .u64 0], .agg #[.int .u64 0, .int .u64 0], .bool false])) [(0, 172), (2, 174), (3, 175)] (by kernel_rfl) (by rfl) (fun vs w' hC => ?_) ?_
  · intro x172 h172
    intro x174 h174
    intro x175 h175
    have e172 : x172 = ps.v := h172
    clear h172
    subst e172
    have e174 : x174 = .slice (some ⟨g2, 0, none⟩) 1 2 := h174
    clear h174
    subst e174
    have e175 : x175 = .slice (some ⟨g5, 0, none⟩) 2 2 := h175
    clear h175
    subst e175
    refine FR.askl_do rfl fun K hK => ?_
    have hC : TwoC _ _ _ _ _ _ _ vs w' := hC
    have HXW := HX.out.1.grown ((grown_drewN' v26 1).trans hC.gr)
    go_simp
    refine (xoff_no off_F ps_ok HXW.tabs (HXW.s2.take 1 (by decide)) HXW.s5).mono ?_
    rintro e w5 ⟨rfl, hg⟩
    exact hK _ _ rfl ⟨rfl, hg⟩
  -- op 5 (slot 171): move
  refine FR.LateR.mono (FR.Qv.eq (.tuple #[.agg #[.int .u64 0, .int .u64 0], .agg #[.int .u64 0, .int .u64 0], .bool false])) [(4, 176)] (by kernel_rfl) (by rfl) (fun vs w' hC => ?_) ?_
  · intro x176 h176
    have e176 : x176 = .tuple #[.agg #[.int .u64 0, .int .u64 0], .agg #[.int .u64 0, .int .u64 0], .bool false] := h176
    clear h176
    subst e176
    refine FR.askl_do rfl fun K hK => ?_
    go_simp
    exact hK _ _ rfl ⟨rfl, World.grownBy.refl _ none⟩
  -- op 6 (slot 177): extract
  refine FR.LateR.mono (FR.Qv.eq (.agg #[.int .u64 0, .int .u64 0])) [(5, 171)] (by kernel_rfl) (by rfl) (fun vs w' hC => ?_) ?_
  · intro x171 h171
    have e171 : x171 = .tuple #[.agg #[.int .u64 0, .int .u64 0], .agg #[.int .u64 0, .int .u64 0], .bool false] := h171
    clear h171
    subst e171
    refine FR.askl_do rfl fun K hK => ?_
    go_simp
    exact hK _ _ rfl ⟨rfl, World.grownBy.refl _ none⟩
  -- op 7 (slot 178): extract
  refine FR.LateR.mono (FR.Qv.eq (.agg #[.int .u64 0, .int .u64 0])) [(5, 171)] (by kernel_rfl) (by rfl) (fun vs w' hC => ?_) ?_
  · intro x171 h171
    have e171 : x171 = .tuple #[.agg #[.int .u64 0, .int .u64 0], .agg #[.int .u64 0, .int .u64 0], .bool false] := h171
    clear h171
    subst e171
    refine FR.askl_do rfl fun K hK => ?_
    go_simp
    exact hK _ _ rfl ⟨rfl, World.grownBy.refl _ none⟩
  -- op 8 (slot 179): extract
  refine FR.LateR.mono (FR.Qv.eq (.bool false)) [(5, 171)] (by kernel_rfl) (by rfl) (fun vs w' hC => ?_) ?_
  · intro x171 h171
    have e171 : x171 = .tuple #[.agg #[.int .u64 0, .int .u64 0], .agg #[.int .u64 0, .int .u64 0], .bool false] := h171
    clear h171
    subst e171
    refine FR.askl_do rfl fun K hK => ?_
    go_simp
    exact hK _ _ rfl ⟨rfl, World.grownBy.refl _ none⟩
  -- op 9 (slot 19): alloc
  refine FR.LateR.turn 0 [] (by kernel_rfl) [] rfl (by kernel_rfl) (fun vs w' hn hr hC => ?_) ?_
  · refine FR.askl_do rfl fun K hK => ?_
    have hC : TwoC _ _ _ _ _ _ _ vs w' := hC
    have hst := hC.mk1 hn
    go_simp
    exact hK _ _ rfl ⟨.inl (World.grownBy_alloc _ _ none), hst⟩
  -- op 10 (slot 20): alloc
  refine FR.LateR.turn 1 [] (by kernel_rfl) [] rfl (by kernel_rfl) (fun vs w' hn hr hC => ?_) ?_
  · refine FR.askl_do rfl fun K hK => ?_
    have hC : TwoC _ _ _ _ _ _ _ vs w' := hC
    have hst := hC.mk2 hn
    go_simp
    exact hK _ _ rfl ⟨.inl (World.grownBy_alloc _ _ none), hst⟩
  -- op 11 (slot None): store
  refine FR.LateR.turn 2 [(9, 19), (6, 177)] (by kernel_rfl) [0] rfl (by kernel_rfl) (fun vs w' hn hr hC => ?_) ?_
  · intro x19 h19
    intro x177 h177
    have e177 : x177 = .agg #[.int .u64 0, .int .u64 0] := h177
    clear h177
    subst e177
    refine FR.askl_do rfl fun K hK => ?_
    have hC : TwoC _ _ _ _ _ _ _ vs w' := hC
    obtain ⟨g, eg, hl, hz, _, _⟩ := hC.one _ h19
    subst eg
    have hb := hz hn
    have f0 := hb.cell 0
    have f1 := hb.cell 1
    have ff := hb.free
    simp at f0 f1
    have hst := hC.put1 (u := undef) h19 ((hb.set 0 (.int .u64 0)).set 1 (.int .u64 0)) ((grownSetE _ _ _ _).trans (grownSetE _ _ _ _))
    go_simp
    exact hK _ _ rfl ⟨.inr (.inl rfl), hst⟩
  -- op 12 (slot None): store
  refine FR.LateR.turn 3 [(10, 20), (7, 178)] (by kernel_rfl) [1] rfl (by kernel_rfl) (fun vs w' hn hr hC => ?_) ?_
  · intro x20 h20
    intro x178 h178
    have e178 : x178 = .agg #[.int .u64 0, .int .u64 0] := h178
    clear h178
    subst e178
    refine FR.askl_do rfl fun K hK => ?_
    have hC : TwoC _ _ _ _ _ _ _ vs w' := hC
    obtain ⟨g, eg, hl, hz, _, _⟩ := hC.two _ h20
    subst eg
    have hb := hz hn
    have f0 := hb.cell 0
    have f1 := hb.cell 1
    have ff := hb.free
    simp at f0 f1
    have hst := hC.put2 (u := undef) h20 ((hb.set 0 (.int .u64 0)).set 1 (.int .u64 0)) ((grownSetE _ _ _ _).trans (grownSetE _ _ _ _))
    go_simp
    exact hK _ _ rfl ⟨.inr (.inr rfl), hst⟩
  -- op 13 (slot 21): assign
  refine FR.LateR.mono (FR.Qv.eq (.bool false)) [(8, 179)] (by kernel_rfl) (by rfl) (fun vs w' hC => ?_) ?_
  · intro x179 h179
    have e179 : x179 = .bool false := h179
    clear h179
    subst e179
    refine FR.askl_do rfl fun K hK => ?_
    go_simp
    exact hK _ _ rfl ⟨rfl, World.grownBy.refl _ none⟩
  intro vs v27 hvl hC5
  have hC5 : TwoC _ _ _ _ _ _ _ vs v27 := hC5
  intro y0 k0 y1 k1 y2 k2 y3 k3 y4 k4 y5 k5 y6 k6 y7 k7 y8 k8 y9 k9 y10 k10 y11 k11 y12 k12 y13 k13
  have k13 : y13 = .bool false := k13
  subst k13
  have hg : v26.grownBy v27 none := (grown_drewN' v26 1).trans hC5.gr
  clear k0 k1 k2 k3 k4 k5 k6 k7 k8 k9 k10 k11 k12 hvl hC5
  simp only [Act.put, List.setIfInBounds_toArray, List.set_cons_zero, List.set_cons_succ]
  show wpList _ _ _ _ _ _
  refine wpList_nil ?_
  have HXn : Hid (XS gp g2 g3 g4 g5 v27 ∧ w.grownBy v27 none) := Lib.hid ⟨HX.out.1.grown hg, HX.out.2.trans hg⟩
  have HBQn : Hid (Bk v27 gq 24 poddX.cells) := Lib.hid (HBQ.out.grown hg (by simp))
  clear HX
  have HX := HXn
  clear HXn
  clear HBQ
  have HBQ := HBQn
  clear HBQn
  clear hg
  go_upto_region 26 with (fail)
  have HDR : Hid (v27.grownBy v27.drew none) := Lib.hid (grown_drewN' v27 1)
  refine wp_region_mono 13 (by kernel_rfl) (by kernel_rfl) ?_
  -- op 0 (slot 181): load
  refine MonoR.step (Pv.eq (ps.v)) [] (by kernel_rfl) (fun w' hw' => ?_) ?_
  · refine ask_do rfl fun K hK => ?_
    have HXW := HX.out.1.grown (HDR.out.trans hw')
    have hp := HXW.par.prule
    obtain ⟨q0, q1⟩ := op2 HXW.s2
    clear HXW
    go_simp
    exact hK _ _ rfl rfl (World.grownBy.refl _ none)
  -- op 1 (slot 182): move
  refine MonoR.step (Pv.eq (.slice (some ⟨g2, 0, none⟩) 2 2)) [] (by kernel_rfl) (fun w' hw' => ?_) ?_
  · refine ask_do rfl fun K hK => ?_
    go_simp
    exact hK _ _ rfl rfl (World.grownBy.refl _ none)
  -- op 2 (slot 183): indexAddr
  refine MonoR.step (Pv.eq (.pointer (some ⟨g2, 0, none⟩))) [(1, 182)] (by kernel_rfl) (fun w' hw' => ?_) ?_
  · intro x182 h182
    have e182 : x182 = .slice (some ⟨g2, 0, none⟩) 2 2 := h182
    clear h182
    subst e182
    refine ask_do rfl fun K hK => ?_
    go_simp
    exact hK _ _ rfl rfl (World.grownBy.refl _ none)
  -- op 3 (slot 184): load
  refine MonoR.step (Pv.eq (.agg #[.int .u64 5, .int .u64 2])) [(2, 183)] (by kernel_rfl) (fun w' hw' => ?_) ?_
  · intro x183 h183
    have e183 : x183 = .pointer (some ⟨g2, 0, none⟩) := h183
    clear h183
    subst e183
    refine ask_do rfl fun K hK => ?_
    have HXW := HX.out.1.grown (HDR.out.trans hw')
    have hp := HXW.par.prule
    obtain ⟨q0, q1⟩ := op2 HXW.s2
    clear HXW
    go_simp
    exact hK _ _ rfl rfl (World.grownBy.refl _ none)
  -- op 4 (slot 185): move
  refine MonoR.step (Pv.eq (.slice (some ⟨g2, 0, none⟩) 2 2)) [] (by kernel_rfl) (fun w' hw' => ?_) ?_
  · refine ask_do rfl fun K hK => ?_
    go_simp
    exact hK _ _ rfl rfl (World.grownBy.refl _ none)
  -- op 5 (slot 186): indexAddr
  refine MonoR.step (Pv.eq (.pointer (some ⟨g2, 0, none⟩))) [(4, 185)] (by kernel_rfl) (fun w' hw' => ?_) ?_
  · intro x185 h185
    have e185 : x185 = .slice (some ⟨g2, 0, none⟩) 2 2 := h185
    clear h185
    subst e185
    refine ask_do rfl fun K hK => ?_
    go_simp
    exact hK _ _ rfl rfl (World.grownBy.refl _ none)
  -- op 6 (slot 187): load
  refine MonoR.step (Pv.eq (.agg #[.int .u64 5, .int .u64 2])) [(5, 186)] (by kernel_rfl) (fun w' hw' => ?_) ?_
  · intro x186 h186
    have e186 : x186 = .pointer (some ⟨g2, 0, none⟩) := h186
    clear h186
    subst e186
    refine ask_do rfl fun K hK => ?_
    have HXW := HX.out.1.grown (HDR.out.trans hw')
    have hp := HXW.par.prule
    obtain ⟨q0, q1⟩ := op2 HXW.s2
    clear HXW
    go_simp
    exact hK _ _ rfl rfl (World.grownBy.refl _ none)
  -- op 7 (slot 188): call
  refine MonoR.step (Pv.eq (.tuple #[.int .u64 0, .bool false])) [(0, 181), (3, 184), (6, 187)] (by kernel_rfl) (fun w' hw' => ?_) ?_
  · intro x181 h181
    intro x184 h184
    intro x187 h187
    have e181 : x181 = ps.v := h181
    clear h181
    subst e181
    have e184 : x184 = .agg #[.int .u64 5, .int .u64 2] := h184
    clear h184
    subst e184
    have e187 : x187 = .agg #[.int .u64 5, .int .u64 2] := h187
    clear h187
    subst e187
    refine ask_do rfl fun K hK => ?_
    have HXW := HX.out.1.grown (HDR.out.trans hw')
    go_simp
    refine (xpow_c pow_3 _ (u6 5 2) (u6 5 2)).mono ?_
    rintro e w5 ⟨rfl, hg⟩
    exact hK _ _ rfl rfl hg
  -- op 8 (slot 180): move
  refine MonoR.step (Pv.eq (.tuple #[.int .u64 0, .bool false])) [(7, 188)] (by kernel_rfl) (fun w' hw' => ?_) ?_
  · intro x188 h188
    have e188 : x188 = .tuple #[.int .u64 0, .bool false] := h188
    clear h188
    subst e188
    refine ask_do rfl fun K hK => ?_
    go_simp
    exact hK _ _ rfl rfl (World.grownBy.refl _ none)
  -- op 9 (slot 189): extract
  refine MonoR.step (Pv.eq (.int .u64 0)) [(8, 180)] (by kernel_rfl) (fun w' hw' => ?_) ?_
  · intro x180 h180
    have e180 : x180 = .tuple #[.int .u64 0, .bool false] := h180
    clear h180
    subst e180
    refine ask_do rfl fun K hK => ?_
    go_simp
    exact hK _ _ rfl rfl (World.grownBy.refl _ none)
  -- op 10 (slot 190): extract
  refine MonoR.step (Pv.eq (.bool false)) [(8, 180)] (by kernel_rfl) (fun w' hw' => ?_) ?_
  · intro x180 h180
    have e180 : x180 = .tuple #[.int .u64 0, .bool false] := h180
    clear h180
    subst e180
    refine ask_do rfl fun K hK => ?_
    go_simp
    exact hK _ _ rfl rfl (World.grownBy.refl _ none)
  -- op 11 (slot 22): assign
  refine MonoR.step (Pv.eq (.int .u64 0)) [(9, 189)] (by kernel_rfl) (fun w' hw' => ?_) ?_
  · intro x189 h189
    have e189 : x189 = .int .u64 0 := h189
    clear h189
    subst e189
    refine ask_do rfl fun K hK => ?_
    go_simp
    exact hK _ _ rfl rfl (World.grownBy.refl _ none)
  -- op 12 (slot 23): assign
  refine MonoR.step (Pv.eq (.bool false)) [(10, 190)] (by kernel_rfl) (fun w' hw' => ?_) ?_
  · intro x190 h190
    have e190 : x190 = .bool false := h190
    clear h190
    subst e190
    refine ask_do rfl fun K hK => ?_
    go_simp
    exact hK _ _ rfl rfl (World.grownBy.refl _ none)
  
  intro v28 hw
  intro y0 k0 y1 k1 y2 k2 y3 k3 y4 k4 y5 k5 y6 k6 y7 k7 y8 k8 y9 k9 y10 k10 y11 k11 y12 k12
  have k11 : y11 = .int .u64 0 := k11
  have k12 : y12 = .bool false := k12
  subst k11 k12
  have hg : v27.grownBy v28 none := HDR.out.trans hw
  clear HDR hw k0 k1 k2 k3 k4 k5 k6 k7 k8 k9 k10
  simp only [Act.put, List.setIfInBounds_toArray, List.set_cons_zero, List.set_cons_succ]
  refine wpList_nil ?_
  have HXn : Hid (XS gp g2 g3 g4 g5 v28 ∧ w.grownBy v28 none) := Lib.hid ⟨HX.out.1.grown hg, HX.out.2.trans hg⟩
  have HBQn : Hid (Bk v28 gq 24 poddX.cells) := Lib.hid (HBQ.out.grown hg (by simp))
  clear HX
  have HX := HXn
  clear HXn
  clear HBQ
  have HBQ := HBQn
  clear HBQn
  clear hg
  go_upto_region 27 with (fail)
  have HDR : Hid (v28.grownBy v28.drew none) := Lib.hid (grown_drewN' v28 1)
  refine wp_region_mono 11 (by kernel_rfl) (by kernel_rfl) ?_
  -- op 0 (slot 192): load
  refine MonoR.step (Pv.eq (ps.v)) [] (by kernel_rfl) (fun w' hw' => ?_) ?_
  · refine ask_do rfl fun K hK => ?_
    have HXW := HX.out.1.grown (HDR.out.trans hw')
    have hp := HXW.par.prule
    obtain ⟨q0, q1⟩ := op2 HXW.s2
    clear HXW
    go_simp
    exact hK _ _ rfl rfl (World.grownBy.refl _ none)
  -- op 1 (slot 193): move
  refine MonoR.step (Pv.eq (.slice (some ⟨g2, 0, none⟩) 2 2)) [] (by kernel_rfl) (fun w' hw' => ?_) ?_
  · refine ask_do rfl fun K hK => ?_
    go_simp
    exact hK _ _ rfl rfl (World.grownBy.refl _ none)
  -- op 2 (slot 194): indexAddr
  refine MonoR.step (Pv.eq (.pointer (some ⟨g2, 0, none⟩))) [(1, 193)] (by kernel_rfl) (fun w' hw' => ?_) ?_
  · intro x193 h193
    have e193 : x193 = .slice (some ⟨g2, 0, none⟩) 2 2 := h193
    clear h193
    subst e193
    refine ask_do rfl fun K hK => ?_
    go_simp
    exact hK _ _ rfl rfl (World.grownBy.refl _ none)
  -- op 3 (slot 195): load
  refine MonoR.step (Pv.eq (.agg #[.int .u64 5, .int .u64 2])) [(2, 194)] (by kernel_rfl) (fun w' hw' => ?_) ?_
  · intro x194 h194
    have e194 : x194 = .pointer (some ⟨g2, 0, none⟩) := h194
    clear h194
    subst e194
    refine ask_do rfl fun K hK => ?_
    have HXW := HX.out.1.grown (HDR.out.trans hw')
    have hp := HXW.par.prule
    obtain ⟨q0, q1⟩ := op2 HXW.s2
    clear HXW
    go_simp
    exact hK _ _ rfl rfl (World.grownBy.refl _ none)
  -- op 4 (slot 196): build
  refine MonoR.step (Pv.eq (.agg #[.int .u64 16, .int .u64 13])) [] (by kernel_rfl) (fun w' hw' => ?_) ?_
  · refine ask_do rfl fun K hK => ?_
    go_simp
    exact hK _ _ rfl rfl (World.grownBy.refl _ none)
  -- op 5 (slot 197): call
  refine MonoR.step (Pv.eq (.tuple #[.int .u64 0, .bool false])) [(0, 192), (3, 195), (4, 196)] (by kernel_rfl) (fun w' hw' => ?_) ?_
  · intro x192 h192
    intro x195 h195
    intro x196 h196
    have e192 : x192 = ps.v := h192
    clear h192
    subst e192
    have e195 : x195 = .agg #[.int .u64 5, .int .u64 2] := h195
    clear h195
    subst e195
    have e196 : x196 = .agg #[.int .u64 16, .int .u64 13] := h196
    clear h196
    subst e196
    refine ask_do rfl fun K hK => ?_
    have HXW := HX.out.1.grown (HDR.out.trans hw')
    go_simp
    refine (xpow_c pow_4 _ (u6 5 2) (u6 16 13)).mono ?_
    rintro e w5 ⟨rfl, hg⟩
    exact hK _ _ rfl rfl hg
  -- op 6 (slot 191): move
  refine MonoR.step (Pv.eq (.tuple #[.int .u64 0, .bool false])) [(5, 197)] (by kernel_rfl) (fun w' hw' => ?_) ?_
  · intro x197 h197
    have e197 : x197 = .tuple #[.int .u64 0, .bool false] := h197
    clear h197
    subst e197
    refine ask_do rfl fun K hK => ?_
    go_simp
    exact hK _ _ rfl rfl (World.grownBy.refl _ none)
  -- op 7 (slot 198): extract
  refine MonoR.step (Pv.eq (.int .u64 0)) [(6, 191)] (by kernel_rfl) (fun w' hw' => ?_) ?_
  · intro x191 h191
    have e191 : x191 = .tuple #[.int .u64 0, .bool false] := h191
    clear h191
    subst e191
    refine ask_do rfl fun K hK => ?_
    go_simp
    exact hK _ _ rfl rfl (World.grownBy.refl _ none)
  -- op 8 (slot 199): extract
  refine MonoR.step (Pv.eq (.bool false)) [(6, 191)] (by kernel_rfl) (fun w' hw' => ?_) ?_
  · intro x191 h191
    have e191 : x191 = .tuple #[.int .u64 0, .bool false] := h191
    clear h191
    subst e191
    refine ask_do rfl fun K hK => ?_
    go_simp
    exact hK _ _ rfl rfl (World.grownBy.refl _ none)
  -- op 9 (slot 24): assign
  refine MonoR.step (Pv.eq (.int .u64 0)) [(7, 198)] (by kernel_rfl) (fun w' hw' => ?_) ?_
  · intro x198 h198
    have e198 : x198 = .int .u64 0 := h198
    clear h198
    subst e198
    refine ask_do rfl fun K hK => ?_
    go_simp
    exact hK _ _ rfl rfl (World.grownBy.refl _ none)
  -- op 10 (slot 25): assign
  refine MonoR.step (Pv.eq (.bool false)) [(8, 199)] (by kernel_rfl) (fun w' hw' => ?_) ?_
  · intro x199 h199
    have e199 : x199 = .bool false := h199
    clear h199
    subst e199
    refine ask_do rfl fun K hK => ?_
    go_simp
    exact hK _ _ rfl rfl (World.grownBy.refl _ none)
  
  intro v29 hw
  intro y0 k0 y1 k1 y2 k2 y3 k3 y4 k4 y5 k5 y6 k6 y7 k7 y8 k8 y9 k9 y10 k10
  have k9 : y9 = .int .u64 0 := k9
  have k10 : y10 = .bool false := k10
  subst k9 k10
  have hg : v28.grownBy v29 none := HDR.out.trans hw
  clear HDR hw k0 k1 k2 k3 k4 k5 k6 k7 k8
  simp only [Act.put, List.setIfInBounds_toArray, List.set_cons_zero, List.set_cons_succ]
  refine wpList_nil ?_
  have HXn : Hid (XS gp g2 g3 g4 g5 v29 ∧ w.grownBy v29 none) := Lib.hid ⟨HX.out.1.grown hg, HX.out.2.trans hg⟩
  have HBQn : Hid (Bk v29 gq 24 poddX.cells) := Lib.hid (HBQ.out.grown hg (by simp))
  clear HX
  have HX := HXn
  clear HXn
  clear HBQ
  have HBQ := HBQn
  clear HBQn
  clear hg
  have hp := HBQ.out.prule
  go_wp2_with fail
  refine (xkn_c kn_4 poddX_ok _ HX.out.1.tabs (by decide)).mono ?_
  rintro e v30 ⟨rfl, hg⟩
  clear hp
  clear HBQ
  have HXn : Hid (XS gp g2 g3 g4 g5 v30 ∧ w.grownBy v30 none) := Lib.hid ⟨HX.out.1.grown hg, HX.out.2.trans hg⟩
  clear HX
  have HX := HXn
  clear HXn
  clear hg
  go_wp2_with fail
  refine (xkn_c kn_5 pzX_ok _ HX.out.1.tabs (by decide)).mono ?_
  rintro e v31 ⟨rfl, hg⟩
  have HXn : Hid (XS gp g2 g3 g4 g5 v31 ∧ w.grownBy v31 none) := Lib.hid ⟨HX.out.1.grown hg, HX.out.2.trans hg⟩
  clear HX
  have HX := HXn
  clear HXn
  clear hg
  go_wp2
  go_ret
  exact ⟨rfl, HX.out.2⟩
end Go.Proofs.YtlhjbllfcbojmaaDoor
