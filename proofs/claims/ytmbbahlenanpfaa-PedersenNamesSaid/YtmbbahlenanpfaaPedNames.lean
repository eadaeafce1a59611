/- consistorylaw08.PedersenNames, walked (printed by mk_pnames.py). -/
import Derived.Test.YtmbbahlenanpfaaPedL
import Derived.Test.YtmbbahlenanpfaaMonoS
import Derived.Test.YtmbbahlenanpfaaBonded
import Derived.Deep.DeepCutAuto
namespace Go.Proofs.Ytmbbahlenanpfaa
open Go Go.RowKit

abbrev pn : Par := ⟨0, 0, 0, 0, 0, 0, -1, 0, 0, 0, 0, 0⟩
theorem pn_ok : pn.ok := ⟨⟨by decide, by decide⟩, ⟨by decide, by decide⟩, ⟨by decide, by decide⟩, ⟨by decide, by decide⟩, ⟨by decide, by decide⟩, ⟨by decide, by decide⟩, ⟨by decide, by decide⟩, ⟨by decide, by decide⟩, ⟨by decide, by decide⟩, ⟨by decide, by decide⟩, ⟨by decide, by decide⟩, ⟨by decide, by decide⟩⟩
set_option maxRecDepth 100000 in
set_option maxHeartbeats 4000000 in
theorem pnames_any (w : World) : Calls Try.prog 3 #[] w fun e w' => e = .returned (.bool true) ∧ w.grownBy w' none := by
  go_enter Try.func3, Try.ntmps3
  go_wp2_with fail
  refine (works08_any _).mono ?_
  rintro e w1 ⟨rfl, hg⟩
  have HG1 := Lib.hid hg
  clear hg
  go_wp2_with fail
  refine (small_any w1).mono ?_
  rintro e w2 ⟨rfl, hg⟩
  have HB : Hid (Bk (w2.alloc (.cells ps.cells 25)) w2.heap.size 25 ps.cells) := Lib.hid (Bk.new w2 _ _)
  have HG : Hid (w.grownBy (w2.alloc (.cells ps.cells 25)) none) := Lib.hid ((HG1.out.trans hg).trans (World.grownBy_alloc _ _ none))
  clear hg HG1
  go_upto_region 4 with (fail)
  obtain ⟨w3, hw3⟩ : ∃ w3, w2.alloc (.cells ps.cells 25) = w3 := ⟨_, rfl⟩
  rw [hw3] at HB HG ⊢
  clear hw3
  refine wp_region_seqm 4 (by kernel_rfl) ?_
  -- op 0 (slot 17): buildSlice
  refine MonoR.step (Pv.sl (encU) TT [13, 16]) [] (by kernel_rfl) (fun w' hw' => ?_) ?_
  · refine ask_do rfl fun K hK => ?_
    go_simp
    exact hK _ _ rfl (Sl.build [[.int .u64 13], [.int .u64 16]] rfl ⟨⟨rfl, by decide⟩, ⟨rfl, by decide⟩, trivial⟩ rfl (by decide)) (World.grownBy_alloc w' _ none)
  -- op 1 (slot 18): buildSlice
  refine MonoR.step (Pv.sl (encU) TT [18, 9]) [] (by kernel_rfl) (fun w' hw' => ?_) ?_
  · refine ask_do rfl fun K hK => ?_
    go_simp
    exact hK _ _ rfl (Sl.build [[.int .u64 18], [.int .u64 9]] rfl ⟨⟨rfl, by decide⟩, ⟨rfl, by decide⟩, trivial⟩ rfl (by decide)) (World.grownBy_alloc w' _ none)
  -- op 2 (slot 19): buildSlice
  refine MonoR.step (Pv.sl (encS encU) TT [[13, 16], [18, 9]]) [(0, 17), (1, 18)] (by kernel_rfl) (fun w' hw' => ?_) ?_
  · intro x17 h17
    have h17 : Sl (encU) TT w' x17 [13, 16] := h17
    obtain ⟨A17, c17, e17, k17, l17⟩ := h17.form
    have e17 : x17 = .slice A17 2 c17 := e17
    subst e17
    intro x18 h18
    have h18 : Sl (encU) TT w' x18 [18, 9] := h18
    obtain ⟨A18, c18, e18, k18, l18⟩ := h18.form
    have e18 : x18 = .slice A18 2 c18 := e18
    subst e18
    refine ask_do rfl fun K hK => ?_
    go_simp
    exact hK _ _ rfl (Sl.build [[.slice A17 2 c17], [.slice A18 2 c18]] rfl ⟨⟨_, rfl, h17⟩, ⟨_, rfl, h18⟩, trivial⟩ rfl (by decide)) (World.grownBy_alloc w' _ none)
  -- op 3 (slot 2): assign
  refine MonoR.step (Pv.sl (encS encU) TT [[13, 16], [18, 9]]) [(2, 19)] (by kernel_rfl) (fun w' hw' => ?_) ?_
  · intro x19 h19
    have h19 : Sl (encS encU) TT w' x19 [[13, 16], [18, 9]] := h19
    refine ask_do rfl fun K hK => ?_
    go_simp
    exact hK _ _ rfl h19 (World.grownBy.refl _ none)
  intro w4 hww4
  intro _ _
  intro _ _
  intro _ _
  intro v2 h2'
  have HBd : Hid (Bk w4 w2.heap.size 25 ps.cells) := Lib.hid (Bk.grown HB.out hww4 (by simp))
  have HGd : Hid (w.grownBy w4 none) := Lib.hid ((HG.out).trans hww4)
  clear HB
  have HB := HBd
  clear HBd
  clear HG
  have HG := HGd
  clear HGd
  have HS2 : Hid (Sl (encS encU) TT w4 v2 [[13, 16], [18, 9]]) := Lib.hid h2'
  clear h2'
  clear hww4
  refine wpList_nil ?_
  simp only [Act.put, List.setIfInBounds_toArray, List.set_cons_zero, List.set_cons_succ]
  go_upto_region 5 with (fail)
  refine wp_region_seqm 8 (by kernel_rfl) ?_
  -- op 0 (slot 20): buildSlice
  refine MonoR.step (Pv.sl (encU) TT [13, 1]) [] (by kernel_rfl) (fun w' hw' => ?_) ?_
  · refine ask_do rfl fun K hK => ?_
    go_simp
    exact hK _ _ rfl (Sl.build [[.int .u64 13], [.int .u64 1]] rfl ⟨⟨rfl, by decide⟩, ⟨rfl, by decide⟩, trivial⟩ rfl (by decide)) (World.grownBy_alloc w' _ none)
  -- op 1 (slot 21): buildSlice
  refine MonoR.step (Pv.sl (encU) TT [2, 3]) [] (by kernel_rfl) (fun w' hw' => ?_) ?_
  · refine ask_do rfl fun K hK => ?_
    go_simp
    exact hK _ _ rfl (Sl.build [[.int .u64 2], [.int .u64 3]] rfl ⟨⟨rfl, by decide⟩, ⟨rfl, by decide⟩, trivial⟩ rfl (by decide)) (World.grownBy_alloc w' _ none)
  -- op 2 (slot 22): buildSlice
  refine MonoR.step (Pv.sl (encS encU) TT [[13, 1], [2, 3]]) [(0, 20), (1, 21)] (by kernel_rfl) (fun w' hw' => ?_) ?_
  · intro x20 h20
    have h20 : Sl (encU) TT w' x20 [13, 1] := h20
    obtain ⟨A20, c20, e20, k20, l20⟩ := h20.form
    have e20 : x20 = .slice A20 2 c20 := e20
    subst e20
    intro x21 h21
    have h21 : Sl (encU) TT w' x21 [2, 3] := h21
    obtain ⟨A21, c21, e21, k21, l21⟩ := h21.form
    have e21 : x21 = .slice A21 2 c21 := e21
    subst e21
    refine ask_do rfl fun K hK => ?_
    go_simp
    exact hK _ _ rfl (Sl.build [[.slice A20 2 c20], [.slice A21 2 c21]] rfl ⟨⟨_, rfl, h20⟩, ⟨_, rfl, h21⟩, trivial⟩ rfl (by decide)) (World.grownBy_alloc w' _ none)
  -- op 3 (slot 23): buildSlice
  refine MonoR.step (Pv.sl (encU) TT [18, 4]) [] (by kernel_rfl) (fun w' hw' => ?_) ?_
  · refine ask_do rfl fun K hK => ?_
    go_simp
    exact hK _ _ rfl (Sl.build [[.int .u64 18], [.int .u64 4]] rfl ⟨⟨rfl, by decide⟩, ⟨rfl, by decide⟩, trivial⟩ rfl (by decide)) (World.grownBy_alloc w' _ none)
  -- op 4 (slot 24): buildSlice
  refine MonoR.step (Pv.sl (encU) TT [6, 8]) [] (by kernel_rfl) (fun w' hw' => ?_) ?_
  · refine ask_do rfl fun K hK => ?_
    go_simp
    exact hK _ _ rfl (Sl.build [[.int .u64 6], [.int .u64 8]] rfl ⟨⟨rfl, by decide⟩, ⟨rfl, by decide⟩, trivial⟩ rfl (by decide)) (World.grownBy_alloc w' _ none)
  -- op 5 (slot 25): buildSlice
  refine MonoR.step (Pv.sl (encS encU) TT [[18, 4], [6, 8]]) [(3, 23), (4, 24)] (by kernel_rfl) (fun w' hw' => ?_) ?_
  · intro x23 h23
    have h23 : Sl (encU) TT w' x23 [18, 4] := h23
    obtain ⟨A23, c23, e23, k23, l23⟩ := h23.form
    have e23 : x23 = .slice A23 2 c23 := e23
    subst e23
    intro x24 h24
    have h24 : Sl (encU) TT w' x24 [6, 8] := h24
    obtain ⟨A24, c24, e24, k24, l24⟩ := h24.form
    have e24 : x24 = .slice A24 2 c24 := e24
    subst e24
    refine ask_do rfl fun K hK => ?_
    go_simp
    exact hK _ _ rfl (Sl.build [[.slice A23 2 c23], [.slice A24 2 c24]] rfl ⟨⟨_, rfl, h23⟩, ⟨_, rfl, h24⟩, trivial⟩ rfl (by decide)) (World.grownBy_alloc w' _ none)
  -- op 6 (slot 26): buildSlice
  refine MonoR.step (Pv.sl (encS (encS encU)) TT [[[13, 1], [2, 3]], [[18, 4], [6, 8]]]) [(2, 22), (5, 25)] (by kernel_rfl) (fun w' hw' => ?_) ?_
  · intro x22 h22
    have h22 : Sl (encS encU) TT w' x22 [[13, 1], [2, 3]] := h22
    obtain ⟨A22, c22, e22, k22, l22⟩ := h22.form
    have e22 : x22 = .slice A22 2 c22 := e22
    subst e22
    intro x25 h25
    have h25 : Sl (encS encU) TT w' x25 [[18, 4], [6, 8]] := h25
    obtain ⟨A25, c25, e25, k25, l25⟩ := h25.form
    have e25 : x25 = .slice A25 2 c25 := e25
    subst e25
    refine ask_do rfl fun K hK => ?_
    go_simp
    exact hK _ _ rfl (Sl.build [[.slice A22 2 c22], [.slice A25 2 c25]] rfl ⟨⟨_, rfl, h22⟩, ⟨_, rfl, h25⟩, trivial⟩ rfl (by decide)) (World.grownBy_alloc w' _ none)
  -- op 7 (slot 3): assign
  refine MonoR.step (Pv.sl (encS (encS encU)) TT [[[13, 1], [2, 3]], [[18, 4], [6, 8]]]) [(6, 26)] (by kernel_rfl) (fun w' hw' => ?_) ?_
  · intro x26 h26
    have h26 : Sl (encS (encS encU)) TT w' x26 [[[13, 1], [2, 3]], [[18, 4], [6, 8]]] := h26
    refine ask_do rfl fun K hK => ?_
    go_simp
    exact hK _ _ rfl h26 (World.grownBy.refl _ none)
  intro w5 hww5
  intro _ _
  intro _ _
  intro _ _
  intro _ _
  intro _ _
  intro _ _
  intro _ _
  intro v3 h3'
  have HBd : Hid (Bk w5 w2.heap.size 25 ps.cells) := Lib.hid (Bk.grown HB.out hww5 (by simp))
  have HGd : Hid (w.grownBy w5 none) := Lib.hid ((HG.out).trans hww5)
  have HS2d : Hid (Sl (encS encU) TT w5 v2 [[13, 16], [18, 9]]) := Lib.hid (Sl.kept HS2.out hww5)
  clear HB
  have HB := HBd
  clear HBd
  clear HG
  have HG := HGd
  clear HGd
  clear HS2
  have HS2 := HS2d
  clear HS2d
  have HS3 : Hid (Sl (encS (encS encU)) TT w5 v3 [[[13, 1], [2, 3]], [[18, 4], [6, 8]]]) := Lib.hid h3'
  clear h3'
  clear hww5
  refine wpList_nil ?_
  simp only [Act.put, List.setIfInBounds_toArray, List.set_cons_zero, List.set_cons_succ]
  go_upto_region 6 with (fail)
  have HBd : Hid (Bk w5.drew w2.heap.size 25 ps.cells) := Lib.hid (Bk.grown HB.out (grown_drewN' w5 1) (by simp))
  have HGd : Hid (w.grownBy w5.drew none) := Lib.hid ((HG.out).trans (grown_drewN' w5 1))
  have HS2d : Hid (Sl (encS encU) TT w5.drew v2 [[13, 16], [18, 9]]) := Lib.hid (Sl.kept HS2.out (grown_drewN' w5 1))
  have HS3d : Hid (Sl (encS (encS encU)) TT w5.drew v3 [[[13, 1], [2, 3]], [[18, 4], [6, 8]]]) := Lib.hid (Sl.kept HS3.out (grown_drewN' w5 1))
  clear HB
  have HB := HBd
  clear HBd
  clear HG
  have HG := HGd
  clear HGd
  clear HS2
  have HS2 := HS2d
  clear HS2d
  clear HS3
  have HS3 := HS3d
  clear HS3d
  refine wp_region_mono 8 (by kernel_rfl) (by kernel_rfl) ?_
  -- op 0 (slot 27): load
  refine MonoR.step (Pv.eq (ps.v)) [] (by kernel_rfl) (fun w' hw' => ?_) ?_
  · refine ask_do rfl fun K hK => ?_
    have hp := (HB.out.grown hw' (by simp)).prule
    go_simp
    exact hK _ _ rfl rfl (World.grownBy.refl _ none)
  -- op 1 (slot 28): move
  refine MonoR.step (Pv.sl (encS (encS encU)) TT [[[13, 1], [2, 3]], [[18, 4], [6, 8]]]) [] (by kernel_rfl) (fun w' hw' => ?_) ?_
  · refine ask_do rfl fun K hK => ?_
    go_simp
    exact hK _ _ rfl (HS3.out.kept hw') (World.grownBy.refl _ none)
  -- op 2 (slot 29): call
  refine MonoR.step (Pv.sl (encS encU) TT [[6, 9], [4, 3]]) [(0, 27), (1, 28)] (by kernel_rfl) (fun w' hw' => ?_) ?_
  · rintro _ rfl
    intro x28 h28
    have h28 : Sl (encS (encS encU)) TT w' x28 [[[13, 1], [2, 3]], [[18, 4], [6, 8]]] := h28
    refine ask_do rfl fun K hK => ?_
    go_simp
    refine (rowComs_any ps _ [[[13, 1], [2, 3]], [[18, 4], [6, 8]]] 2 TT w' h28 ⟨by decide, by decide⟩ (by decide) (by decide)).mono ?_
    rintro e w3 ⟨v3, rfl, h3, hg⟩
    rw [(show rowComsI ps [[[13, 1], [2, 3]], [[18, 4], [6, 8]]] 2 = [[6, 9], [4, 3]] by decide +kernel)] at h3
    exact hK _ _ rfl (h3.more (fun _ _ _ => trivial)) hg
  -- op 3 (slot 30): load
  refine MonoR.step (Pv.eq (ps.v)) [] (by kernel_rfl) (fun w' hw' => ?_) ?_
  · refine ask_do rfl fun K hK => ?_
    have hp := (HB.out.grown hw' (by simp)).prule
    go_simp
    exact hK _ _ rfl rfl (World.grownBy.refl _ none)
  -- op 4 (slot 31): move
  refine MonoR.step (Pv.sl (encS (encS encU)) TT [[[13, 1], [2, 3]], [[18, 4], [6, 8]]]) [] (by kernel_rfl) (fun w' hw' => ?_) ?_
  · refine ask_do rfl fun K hK => ?_
    go_simp
    exact hK _ _ rfl (HS3.out.kept hw') (World.grownBy.refl _ none)
  -- op 5 (slot 32): call
  refine MonoR.step (Pv.sl (encS encU) TT [[13, 18], [12, 16]]) [(3, 30), (4, 31)] (by kernel_rfl) (fun w' hw' => ?_) ?_
  · rintro _ rfl
    intro x31 h31
    have h31 : Sl (encS (encS encU)) TT w' x31 [[[13, 1], [2, 3]], [[18, 4], [6, 8]]] := h31
    refine ask_do rfl fun K hK => ?_
    go_simp
    refine (colComs_any ps _ [[[13, 1], [2, 3]], [[18, 4], [6, 8]]] 2 TT w' h31 ⟨by decide, by decide⟩ (by decide) (by decide)).mono ?_
    rintro e w3 ⟨v3, rfl, h3, hg⟩
    rw [(show colComsI ps [[[13, 1], [2, 3]], [[18, 4], [6, 8]]] 2 = [[13, 18], [12, 16]] by decide +kernel)] at h3
    exact hK _ _ rfl (h3.more (fun _ _ _ => trivial)) hg
  -- op 6 (slot 4): assign
  refine MonoR.step (Pv.sl (encS encU) TT [[6, 9], [4, 3]]) [(2, 29)] (by kernel_rfl) (fun w' hw' => ?_) ?_
  · intro x29 h29
    have h29 : Sl (encS encU) TT w' x29 [[6, 9], [4, 3]] := h29
    refine ask_do rfl fun K hK => ?_
    go_simp
    exact hK _ _ rfl h29 (World.grownBy.refl _ none)
  -- op 7 (slot 5): assign
  refine MonoR.step (Pv.sl (encS encU) TT [[13, 18], [12, 16]]) [(5, 32)] (by kernel_rfl) (fun w' hw' => ?_) ?_
  · intro x32 h32
    have h32 : Sl (encS encU) TT w' x32 [[13, 18], [12, 16]] := h32
    refine ask_do rfl fun K hK => ?_
    go_simp
    exact hK _ _ rfl h32 (World.grownBy.refl _ none)
  intro w6 hww6
  intro _ _
  intro _ _
  intro _ _
  intro _ _
  intro _ _
  intro _ _
  intro v4 h4'
  intro v5 h5'
  have HBd : Hid (Bk w6 w2.heap.size 25 ps.cells) := Lib.hid (Bk.grown HB.out hww6 (by simp))
  have HGd : Hid (w.grownBy w6 none) := Lib.hid ((HG.out).trans hww6)
  have HS2d : Hid (Sl (encS encU) TT w6 v2 [[13, 16], [18, 9]]) := Lib.hid (Sl.kept HS2.out hww6)
  have HS3d : Hid (Sl (encS (encS encU)) TT w6 v3 [[[13, 1], [2, 3]], [[18, 4], [6, 8]]]) := Lib.hid (Sl.kept HS3.out hww6)
  clear HB
  have HB := HBd
  clear HBd
  clear HG
  have HG := HGd
  clear HGd
  clear HS2
  have HS2 := HS2d
  clear HS2d
  clear HS3
  have HS3 := HS3d
  clear HS3d
  have HS4 : Hid (Sl (encS encU) TT w6 v4 [[6, 9], [4, 3]]) := Lib.hid h4'
  clear h4'
  have HS5 : Hid (Sl (encS encU) TT w6 v5 [[13, 18], [12, 16]]) := Lib.hid h5'
  clear h5'
  clear hww6
  refine wpList_nil ?_
  simp only [Act.put, List.setIfInBounds_toArray, List.set_cons_zero, List.set_cons_succ]
  go_upto_region 7 with (fail)
  refine wp_region_seqm 14 (by kernel_rfl) ?_
  -- op 0 (slot 33): move
  refine MonoR.step (Pv.sl (encS encU) TT [[6, 9], [4, 3]]) [] (by kernel_rfl) (fun w' hw' => ?_) ?_
  · refine ask_do rfl fun K hK => ?_
    go_simp
    exact hK _ _ rfl (HS4.out.kept hw') (World.grownBy.refl _ none)
  -- op 1 (slot 34): buildSlice
  refine MonoR.step (Pv.sl (encU) TT [6, 9]) [] (by kernel_rfl) (fun w' hw' => ?_) ?_
  · refine ask_do rfl fun K hK => ?_
    go_simp
    exact hK _ _ rfl (Sl.build [[.int .u64 6], [.int .u64 9]] rfl ⟨⟨rfl, by decide⟩, ⟨rfl, by decide⟩, trivial⟩ rfl (by decide)) (World.grownBy_alloc w' _ none)
  -- op 2 (slot 35): buildSlice
  refine MonoR.step (Pv.sl (encU) TT [4, 3]) [] (by kernel_rfl) (fun w' hw' => ?_) ?_
  · refine ask_do rfl fun K hK => ?_
    go_simp
    exact hK _ _ rfl (Sl.build [[.int .u64 4], [.int .u64 3]] rfl ⟨⟨rfl, by decide⟩, ⟨rfl, by decide⟩, trivial⟩ rfl (by decide)) (World.grownBy_alloc w' _ none)
  -- op 3 (slot 36): buildSlice
  refine MonoR.step (Pv.sl (encS encU) TT [[6, 9], [4, 3]]) [(1, 34), (2, 35)] (by kernel_rfl) (fun w' hw' => ?_) ?_
  · intro x34 h34
    have h34 : Sl (encU) TT w' x34 [6, 9] := h34
    obtain ⟨A34, c34, e34, k34, l34⟩ := h34.form
    have e34 : x34 = .slice A34 2 c34 := e34
    subst e34
    intro x35 h35
    have h35 : Sl (encU) TT w' x35 [4, 3] := h35
    obtain ⟨A35, c35, e35, k35, l35⟩ := h35.form
    have e35 : x35 = .slice A35 2 c35 := e35
    subst e35
    refine ask_do rfl fun K hK => ?_
    go_simp
    exact hK _ _ rfl (Sl.build [[.slice A34 2 c34], [.slice A35 2 c35]] rfl ⟨⟨_, rfl, h34⟩, ⟨_, rfl, h35⟩, trivial⟩ rfl (by decide)) (World.grownBy_alloc w' _ none)
  -- op 4 (slot 37): call
  refine MonoR.step (Pv.eq (.bool true)) [(0, 33), (3, 36)] (by kernel_rfl) (fun w' hw' => ?_) ?_
  · intro x33 h33
    have h33 : Sl (encS encU) TT w' x33 [[6, 9], [4, 3]] := h33
    intro x36 h36
    have h36 : Sl (encS encU) TT w' x36 [[6, 9], [4, 3]] := h36
    refine ask_do rfl fun K hK => ?_
    go_simp
    refine (lists_eq _ _ [[6, 9], [4, 3]] TT TT w' h33 h36).mono ?_
    rintro e w3 ⟨rfl, m3, rfl⟩
    exact hK _ _ rfl rfl (grown_drewN' w' m3)
  -- op 5 (slot 38): unOp
  refine MonoR.step (Pv.eq (.bool false)) [(4, 37)] (by kernel_rfl) (fun w' hw' => ?_) ?_
  · rintro _ rfl
    refine ask_do rfl fun K hK => ?_
    go_simp
    exact hK _ _ rfl rfl (World.grownBy.refl _ none)
  -- op 6 (slot 39): move
  refine MonoR.step (Pv.eq (.bool false)) [(5, 38)] (by kernel_rfl) (fun w' hw' => ?_) ?_
  · rintro _ rfl
    refine ask_do rfl fun K hK => ?_
    go_simp
    exact hK _ _ rfl rfl (World.grownBy.refl _ none)
  -- op 7 (slot 40): move
  refine MonoR.step (Pv.sl (encS encU) TT [[13, 18], [12, 16]]) [(6, 39)] (by kernel_rfl) (fun w' hw' => ?_) ?_
  · rintro _ rfl
    refine ask_do rfl fun K hK => ?_
    go_simp
    exact hK _ _ rfl (HS5.out.kept hw') (World.grownBy.refl _ none)
  -- op 8 (slot 41): buildSlice
  refine MonoR.step (Pv.sl (encU) TT [13, 18]) [(6, 39)] (by kernel_rfl) (fun w' hw' => ?_) ?_
  · rintro _ rfl
    refine ask_do rfl fun K hK => ?_
    go_simp
    exact hK _ _ rfl (Sl.build [[.int .u64 13], [.int .u64 18]] rfl ⟨⟨rfl, by decide⟩, ⟨rfl, by decide⟩, trivial⟩ rfl (by decide)) (World.grownBy_alloc w' _ none)
  -- op 9 (slot 42): buildSlice
  refine MonoR.step (Pv.sl (encU) TT [12, 16]) [(6, 39)] (by kernel_rfl) (fun w' hw' => ?_) ?_
  · rintro _ rfl
    refine ask_do rfl fun K hK => ?_
    go_simp
    exact hK _ _ rfl (Sl.build [[.int .u64 12], [.int .u64 16]] rfl ⟨⟨rfl, by decide⟩, ⟨rfl, by decide⟩, trivial⟩ rfl (by decide)) (World.grownBy_alloc w' _ none)
  -- op 10 (slot 43): buildSlice
  refine MonoR.step (Pv.sl (encS encU) TT [[13, 18], [12, 16]]) [(6, 39), (8, 41), (9, 42)] (by kernel_rfl) (fun w' hw' => ?_) ?_
  · rintro _ rfl
    intro x41 h41
    have h41 : Sl (encU) TT w' x41 [13, 18] := h41
    obtain ⟨A41, c41, e41, k41, l41⟩ := h41.form
    have e41 : x41 = .slice A41 2 c41 := e41
    subst e41
    intro x42 h42
    have h42 : Sl (encU) TT w' x42 [12, 16] := h42
    obtain ⟨A42, c42, e42, k42, l42⟩ := h42.form
    have e42 : x42 = .slice A42 2 c42 := e42
    subst e42
    refine ask_do rfl fun K hK => ?_
    go_simp
    exact hK _ _ rfl (Sl.build [[.slice A41 2 c41], [.slice A42 2 c42]] rfl ⟨⟨_, rfl, h41⟩, ⟨_, rfl, h42⟩, trivial⟩ rfl (by decide)) (World.grownBy_alloc w' _ none)
  -- op 11 (slot 44): call
  refine MonoR.step (Pv.eq (.bool true)) [(6, 39), (7, 40), (10, 43)] (by kernel_rfl) (fun w' hw' => ?_) ?_
  · rintro _ rfl
    intro x40 h40
    have h40 : Sl (encS encU) TT w' x40 [[13, 18], [12, 16]] := h40
    intro x43 h43
    have h43 : Sl (encS encU) TT w' x43 [[13, 18], [12, 16]] := h43
    refine ask_do rfl fun K hK => ?_
    go_simp
    refine (lists_eq _ _ [[13, 18], [12, 16]] TT TT w' h40 h43).mono ?_
    rintro e w3 ⟨rfl, m3, rfl⟩
    exact hK _ _ rfl rfl (grown_drewN' w' m3)
  -- op 12 (slot 45): unOp
  refine MonoR.step (Pv.eq (.bool false)) [(6, 39), (11, 44)] (by kernel_rfl) (fun w' hw' => ?_) ?_
  · rintro _ rfl
    rintro _ rfl
    refine ask_do rfl fun K hK => ?_
    go_simp
    exact hK _ _ rfl rfl (World.grownBy.refl _ none)
  -- op 13 (slot 46): pick
  refine MonoR.step (Pv.eq (.bool false)) [(6, 39), (12, 45)] (by kernel_rfl) (fun w' hw' => ?_) ?_
  · rintro _ rfl
    rintro _ rfl
    refine ask_do rfl fun K hK => ?_
    go_simp
    exact hK _ _ rfl rfl (World.grownBy.refl _ none)
  intro w7 hww7
  intro _ _
  intro _ _
  intro _ _
  intro _ _
  intro _ _
  intro _ _
  intro _ _
  intro _ _
  intro _ _
  intro _ _
  intro _ _
  intro _ _
  intro _ _
  rintro _ rfl
  have HBd : Hid (Bk w7 w2.heap.size 25 ps.cells) := Lib.hid (Bk.grown HB.out hww7 (by simp))
  have HGd : Hid (w.grownBy w7 none) := Lib.hid ((HG.out).trans hww7)
  have HS2d : Hid (Sl (encS encU) TT w7 v2 [[13, 16], [18, 9]]) := Lib.hid (Sl.kept HS2.out hww7)
  have HS3d : Hid (Sl (encS (encS encU)) TT w7 v3 [[[13, 1], [2, 3]], [[18, 4], [6, 8]]]) := Lib.hid (Sl.kept HS3.out hww7)
  have HS4d : Hid (Sl (encS encU) TT w7 v4 [[6, 9], [4, 3]]) := Lib.hid (Sl.kept HS4.out hww7)
  have HS5d : Hid (Sl (encS encU) TT w7 v5 [[13, 18], [12, 16]]) := Lib.hid (Sl.kept HS5.out hww7)
  clear HB
  have HB := HBd
  clear HBd
  clear HG
  have HG := HGd
  clear HGd
  clear HS2
  have HS2 := HS2d
  clear HS2d
  clear HS3
  have HS3 := HS3d
  clear HS3d
  clear HS4
  have HS4 := HS4d
  clear HS4d
  clear HS5
  have HS5 := HS5d
  clear HS5d
  clear hww7
  refine wpList_nil ?_
  simp only [Act.put, List.setIfInBounds_toArray, List.set_cons_zero, List.set_cons_succ]
  clear HS4 HS5
  go_upto_region 9 with (fail)
  have HBd : Hid (Bk w7.drew w2.heap.size 25 ps.cells) := Lib.hid (Bk.grown HB.out (grown_drewN' w7 1) (by simp))
  have HGd : Hid (w.grownBy w7.drew none) := Lib.hid ((HG.out).trans (grown_drewN' w7 1))
  have HS2d : Hid (Sl (encS encU) TT w7.drew v2 [[13, 16], [18, 9]]) := Lib.hid (Sl.kept HS2.out (grown_drewN' w7 1))
  have HS3d : Hid (Sl (encS (encS encU)) TT w7.drew v3 [[[13, 1], [2, 3]], [[18, 4], [6, 8]]]) := Lib.hid (Sl.kept HS3.out (grown_drewN' w7 1))
  clear HB
  have HB := HBd
  clear HBd
  clear HG
  have HG := HGd
  clear HGd
  clear HS2
  have HS2 := HS2d
  clear HS2d
  clear HS3
  have HS3 := HS3d
  clear HS3d
  refine wp_region_mono 30 (by kernel_rfl) (by kernel_rfl) ?_
  -- op 0 (slot 47): load
  refine MonoR.step (Pv.eq (ps.v)) [] (by kernel_rfl) (fun w' hw' => ?_) ?_
  · refine ask_do rfl fun K hK => ?_
    have hp := (HB.out.grown hw' (by simp)).prule
    go_simp
    exact hK _ _ rfl rfl (World.grownBy.refl _ none)
  -- op 1 (slot 48): move
  refine MonoR.step (Pv.sl (encS (encS encU)) TT [[[13, 1], [2, 3]], [[18, 4], [6, 8]]]) [] (by kernel_rfl) (fun w' hw' => ?_) ?_
  · refine ask_do rfl fun K hK => ?_
    go_simp
    exact hK _ _ rfl (HS3.out.kept hw') (World.grownBy.refl _ none)
  -- op 2 (slot 49): call
  refine MonoR.step (Pv.eq (.bool true)) [(0, 47), (1, 48)] (by kernel_rfl) (fun w' hw' => ?_) ?_
  · rintro _ rfl
    intro x48 h48
    have h48 : Sl (encS (encS encU)) TT w' x48 [[[13, 1], [2, 3]], [[18, 4], [6, 8]]] := h48
    refine ask_do rfl fun K hK => ?_
    go_simp
    refine (square_any ps _ [[[13, 1], [2, 3]], [[18, 4], [6, 8]]] TT w' ps_ok h48).mono ?_
    rintro e w3 ⟨rfl, hg⟩
    rw [(show squareB ps [[[13, 1], [2, 3]], [[18, 4], [6, 8]]] = true by decide +kernel)]
    exact hK _ _ rfl rfl hg
  -- op 3 (slot 50): unOp
  refine MonoR.step (Pv.eq (.bool false)) [(2, 49)] (by kernel_rfl) (fun w' hw' => ?_) ?_
  · rintro _ rfl
    refine ask_do rfl fun K hK => ?_
    go_simp
    exact hK _ _ rfl rfl (World.grownBy.refl _ none)
  -- op 4 (slot 51): move
  refine MonoR.step (Pv.eq (.bool false)) [(3, 50)] (by kernel_rfl) (fun w' hw' => ?_) ?_
  · rintro _ rfl
    refine ask_do rfl fun K hK => ?_
    go_simp
    exact hK _ _ rfl rfl (World.grownBy.refl _ none)
  -- op 5 (slot 52): load
  refine MonoR.step (Pv.eq (ps.v)) [(4, 51)] (by kernel_rfl) (fun w' hw' => ?_) ?_
  · rintro _ rfl
    refine ask_do rfl fun K hK => ?_
    have hp := (HB.out.grown hw' (by simp)).prule
    go_simp
    exact hK _ _ rfl rfl (World.grownBy.refl _ none)
  -- op 6 (slot 53): move
  refine MonoR.step (Pv.sl (encS (encS encU)) TT [[[13, 1], [2, 3]], [[18, 4], [6, 8]]]) [(4, 51)] (by kernel_rfl) (fun w' hw' => ?_) ?_
  · rintro _ rfl
    refine ask_do rfl fun K hK => ?_
    go_simp
    exact hK _ _ rfl (HS3.out.kept hw') (World.grownBy.refl _ none)
  -- op 7 (slot 54): move
  refine MonoR.step (Pv.sl (encS encU) TT [[13, 16], [18, 9]]) [(4, 51)] (by kernel_rfl) (fun w' hw' => ?_) ?_
  · rintro _ rfl
    refine ask_do rfl fun K hK => ?_
    go_simp
    exact hK _ _ rfl (HS2.out.kept hw') (World.grownBy.refl _ none)
  -- op 8 (slot 55): call
  refine MonoR.step (Pv.eq (.bool true)) [(4, 51), (5, 52), (6, 53), (7, 54)] (by kernel_rfl) (fun w' hw' => ?_) ?_
  · rintro _ rfl
    rintro _ rfl
    intro x53 h53
    have h53 : Sl (encS (encS encU)) TT w' x53 [[[13, 1], [2, 3]], [[18, 4], [6, 8]]] := h53
    intro x54 h54
    have h54 : Sl (encS encU) TT w' x54 [[13, 16], [18, 9]] := h54
    refine ask_do rfl fun K hK => ?_
    go_simp
    refine (bonded_any ps _ _ [[[13, 1], [2, 3]], [[18, 4], [6, 8]]] [[13, 16], [18, 9]] 0 TT TT w' ps_ok h53 h54 ⟨by decide, by decide⟩ (by decide)).mono ?_
    rintro e w3 ⟨rfl, hg⟩
    rw [(show bondedB ps [[[13, 1], [2, 3]], [[18, 4], [6, 8]]] [[13, 16], [18, 9]] 0 = true by decide +kernel)]
    exact hK _ _ rfl rfl hg
  -- op 9 (slot 56): unOp
  refine MonoR.step (Pv.eq (.bool false)) [(4, 51), (8, 55)] (by kernel_rfl) (fun w' hw' => ?_) ?_
  · rintro _ rfl
    rintro _ rfl
    refine ask_do rfl fun K hK => ?_
    go_simp
    exact hK _ _ rfl rfl (World.grownBy.refl _ none)
  -- op 10 (slot 57): pick
  refine MonoR.step (Pv.eq (.bool false)) [(4, 51), (9, 56)] (by kernel_rfl) (fun w' hw' => ?_) ?_
  · rintro _ rfl
    rintro _ rfl
    refine ask_do rfl fun K hK => ?_
    go_simp
    exact hK _ _ rfl rfl (World.grownBy.refl _ none)
  -- op 11 (slot 58): move
  refine MonoR.step (Pv.eq (.bool false)) [(10, 57)] (by kernel_rfl) (fun w' hw' => ?_) ?_
  · rintro _ rfl
    refine ask_do rfl fun K hK => ?_
    go_simp
    exact hK _ _ rfl rfl (World.grownBy.refl _ none)
  -- op 12 (slot 59): load
  refine MonoR.step (Pv.eq (ps.v)) [(11, 58)] (by kernel_rfl) (fun w' hw' => ?_) ?_
  · rintro _ rfl
    refine ask_do rfl fun K hK => ?_
    have hp := (HB.out.grown hw' (by simp)).prule
    go_simp
    exact hK _ _ rfl rfl (World.grownBy.refl _ none)
  -- op 13 (slot 60): move
  refine MonoR.step (Pv.sl (encS (encS encU)) TT [[[13, 1], [2, 3]], [[18, 4], [6, 8]]]) [(11, 58)] (by kernel_rfl) (fun w' hw' => ?_) ?_
  · rintro _ rfl
    refine ask_do rfl fun K hK => ?_
    go_simp
    exact hK _ _ rfl (HS3.out.kept hw') (World.grownBy.refl _ none)
  -- op 14 (slot 61): move
  refine MonoR.step (Pv.sl (encS encU) TT [[13, 16], [18, 9]]) [(11, 58)] (by kernel_rfl) (fun w' hw' => ?_) ?_
  · rintro _ rfl
    refine ask_do rfl fun K hK => ?_
    go_simp
    exact hK _ _ rfl (HS2.out.kept hw') (World.grownBy.refl _ none)
  -- op 15 (slot 62): call
  refine MonoR.step (Pv.eq (.bool false)) [(11, 58), (12, 59), (13, 60), (14, 61)] (by kernel_rfl) (fun w' hw' => ?_) ?_
  · rintro _ rfl
    rintro _ rfl
    intro x60 h60
    have h60 : Sl (encS (encS encU)) TT w' x60 [[[13, 1], [2, 3]], [[18, 4], [6, 8]]] := h60
    intro x61 h61
    have h61 : Sl (encS encU) TT w' x61 [[13, 16], [18, 9]] := h61
    refine ask_do rfl fun K hK => ?_
    go_simp
    refine (bonded_any ps _ _ [[[13, 1], [2, 3]], [[18, 4], [6, 8]]] [[13, 16], [18, 9]] 1 TT TT w' ps_ok h60 h61 ⟨by decide, by decide⟩ (by decide)).mono ?_
    rintro e w3 ⟨rfl, hg⟩
    rw [(show bondedB ps [[[13, 1], [2, 3]], [[18, 4], [6, 8]]] [[13, 16], [18, 9]] 1 = false by decide +kernel)]
    exact hK _ _ rfl rfl hg
  -- op 16 (slot 63): pick
  refine MonoR.step (Pv.eq (.bool false)) [(11, 58), (15, 62)] (by kernel_rfl) (fun w' hw' => ?_) ?_
  · rintro _ rfl
    rintro _ rfl
    refine ask_do rfl fun K hK => ?_
    go_simp
    exact hK _ _ rfl rfl (World.grownBy.refl _ none)
  -- op 17 (slot 64): move
  refine MonoR.step (Pv.eq (.bool false)) [(16, 63)] (by kernel_rfl) (fun w' hw' => ?_) ?_
  · rintro _ rfl
    refine ask_do rfl fun K hK => ?_
    go_simp
    exact hK _ _ rfl rfl (World.grownBy.refl _ none)
  -- op 18 (slot 65): load
  refine MonoR.step (Pv.eq (ps.v)) [(17, 64)] (by kernel_rfl) (fun w' hw' => ?_) ?_
  · rintro _ rfl
    refine ask_do rfl fun K hK => ?_
    have hp := (HB.out.grown hw' (by simp)).prule
    go_simp
    exact hK _ _ rfl rfl (World.grownBy.refl _ none)
  -- op 19 (slot 66): move
  refine MonoR.step (Pv.sl (encS (encS encU)) TT [[[13, 1], [2, 3]], [[18, 4], [6, 8]]]) [(17, 64)] (by kernel_rfl) (fun w' hw' => ?_) ?_
  · rintro _ rfl
    refine ask_do rfl fun K hK => ?_
    go_simp
    exact hK _ _ rfl (HS3.out.kept hw') (World.grownBy.refl _ none)
  -- op 20 (slot 67): slice
  refine MonoR.step (Pv.sl (encS (encS encU)) TT [[[13, 1], [2, 3]]]) [(17, 64), (19, 66)] (by kernel_rfl) (fun w' hw' => ?_) ?_
  · rintro _ rfl
    intro x66 h66
    have h66 : Sl (encS (encS encU)) TT w' x66 [[[13, 1], [2, 3]], [[18, 4], [6, 8]]] := h66
    obtain ⟨A66, c66, e66, k66, l66⟩ := h66.form
    have e66 : x66 = .slice A66 2 c66 := e66
    subst e66
    refine ask_do rfl fun K hK => ?_
    have kk66 : 1 ≤ c66 := by simp at k66; omega
    have kl66 : (1 : Int) ≤ c66 := by omega
    go_simp
    exact hK _ _ rfl (h66.take 1 (by decide)) (World.grownBy.refl _ none)
  -- op 21 (slot 68): call
  refine MonoR.step (Pv.eq (.bool false)) [(17, 64), (18, 65), (20, 67)] (by kernel_rfl) (fun w' hw' => ?_) ?_
  · rintro _ rfl
    rintro _ rfl
    intro x67 h67
    have h67 : Sl (encS (encS encU)) TT w' x67 [[[13, 1], [2, 3]]] := h67
    refine ask_do rfl fun K hK => ?_
    go_simp
    refine (square_any ps _ [[[13, 1], [2, 3]]] TT w' ps_ok h67).mono ?_
    rintro e w3 ⟨rfl, hg⟩
    rw [(show squareB ps [[[13, 1], [2, 3]]] = false by decide +kernel)]
    exact hK _ _ rfl rfl hg
  -- op 22 (slot 69): pick
  refine MonoR.step (Pv.eq (.bool false)) [(17, 64), (21, 68)] (by kernel_rfl) (fun w' hw' => ?_) ?_
  · rintro _ rfl
    rintro _ rfl
    refine ask_do rfl fun K hK => ?_
    go_simp
    exact hK _ _ rfl rfl (World.grownBy.refl _ none)
  -- op 23 (slot 70): move
  refine MonoR.step (Pv.eq (.bool false)) [(22, 69)] (by kernel_rfl) (fun w' hw' => ?_) ?_
  · rintro _ rfl
    refine ask_do rfl fun K hK => ?_
    go_simp
    exact hK _ _ rfl rfl (World.grownBy.refl _ none)
  -- op 24 (slot 71): load
  refine MonoR.step (Pv.eq (ps.v)) [(23, 70)] (by kernel_rfl) (fun w' hw' => ?_) ?_
  · rintro _ rfl
    refine ask_do rfl fun K hK => ?_
    have hp := (HB.out.grown hw' (by simp)).prule
    go_simp
    exact hK _ _ rfl rfl (World.grownBy.refl _ none)
  -- op 25 (slot 72): move
  refine MonoR.step (Pv.sl (encS (encS encU)) TT [[[13, 1], [2, 3]], [[18, 4], [6, 8]]]) [(23, 70)] (by kernel_rfl) (fun w' hw' => ?_) ?_
  · rintro _ rfl
    refine ask_do rfl fun K hK => ?_
    go_simp
    exact hK _ _ rfl (HS3.out.kept hw') (World.grownBy.refl _ none)
  -- op 26 (slot 73): move
  refine MonoR.step (Pv.sl (encS encU) TT [[13, 16], [18, 9]]) [(23, 70)] (by kernel_rfl) (fun w' hw' => ?_) ?_
  · rintro _ rfl
    refine ask_do rfl fun K hK => ?_
    go_simp
    exact hK _ _ rfl (HS2.out.kept hw') (World.grownBy.refl _ none)
  -- op 27 (slot 74): slice
  refine MonoR.step (Pv.sl (encS encU) TT [[13, 16]]) [(23, 70), (26, 73)] (by kernel_rfl) (fun w' hw' => ?_) ?_
  · rintro _ rfl
    intro x73 h73
    have h73 : Sl (encS encU) TT w' x73 [[13, 16], [18, 9]] := h73
    obtain ⟨A73, c73, e73, k73, l73⟩ := h73.form
    have e73 : x73 = .slice A73 2 c73 := e73
    subst e73
    refine ask_do rfl fun K hK => ?_
    have kk73 : 1 ≤ c73 := by simp at k73; omega
    have kl73 : (1 : Int) ≤ c73 := by omega
    go_simp
    exact hK _ _ rfl (h73.take 1 (by decide)) (World.grownBy.refl _ none)
  -- op 28 (slot 75): call
  refine MonoR.step (Pv.eq (.bool false)) [(23, 70), (24, 71), (25, 72), (27, 74)] (by kernel_rfl) (fun w' hw' => ?_) ?_
  · rintro _ rfl
    rintro _ rfl
    intro x72 h72
    have h72 : Sl (encS (encS encU)) TT w' x72 [[[13, 1], [2, 3]], [[18, 4], [6, 8]]] := h72
    intro x74 h74
    have h74 : Sl (encS encU) TT w' x74 [[13, 16]] := h74
    refine ask_do rfl fun K hK => ?_
    go_simp
    refine (bonded_any ps _ _ [[[13, 1], [2, 3]], [[18, 4], [6, 8]]] [[13, 16]] 0 TT TT w' ps_ok h72 h74 ⟨by decide, by decide⟩ (by decide)).mono ?_
    rintro e w3 ⟨rfl, hg⟩
    rw [(show bondedB ps [[[13, 1], [2, 3]], [[18, 4], [6, 8]]] [[13, 16]] 0 = false by decide +kernel)]
    exact hK _ _ rfl rfl hg
  -- op 29 (slot 76): pick
  refine MonoR.step (Pv.eq (.bool false)) [(23, 70), (28, 75)] (by kernel_rfl) (fun w' hw' => ?_) ?_
  · rintro _ rfl
    rintro _ rfl
    refine ask_do rfl fun K hK => ?_
    go_simp
    exact hK _ _ rfl rfl (World.grownBy.refl _ none)
  intro w8 hww8
  intro _ _
  intro _ _
  intro _ _
  intro _ _
  intro _ _
  intro _ _
  intro _ _
  intro _ _
  intro _ _
  intro _ _
  intro _ _
  intro _ _
  intro _ _
  intro _ _
  intro _ _
  intro _ _
  intro _ _
  intro _ _
  intro _ _
  intro _ _
  intro _ _
  intro _ _
  intro _ _
  intro _ _
  intro _ _
  intro _ _
  intro _ _
  intro _ _
  intro _ _
  rintro _ rfl
  have HBd : Hid (Bk w8 w2.heap.size 25 ps.cells) := Lib.hid (Bk.grown HB.out hww8 (by simp))
  have HGd : Hid (w.grownBy w8 none) := Lib.hid ((HG.out).trans hww8)
  have HS2d : Hid (Sl (encS encU) TT w8 v2 [[13, 16], [18, 9]]) := Lib.hid (Sl.kept HS2.out hww8)
  have HS3d : Hid (Sl (encS (encS encU)) TT w8 v3 [[[13, 1], [2, 3]], [[18, 4], [6, 8]]]) := Lib.hid (Sl.kept HS3.out hww8)
  clear HB
  have HB := HBd
  clear HBd
  clear HG
  have HG := HGd
  clear HGd
  clear HS2
  have HS2 := HS2d
  clear HS2d
  clear HS3
  have HS3 := HS3d
  clear HS3d
  clear hww8
  refine wpList_nil ?_
  simp only [Act.put, List.setIfInBounds_toArray, List.set_cons_zero, List.set_cons_succ]
  go_upto_region 11 with (fail)
  refine wp_region_seqm 3 (by kernel_rfl) ?_
  -- op 0 (slot 77): buildSlice
  refine MonoR.step (Pv.sl (encU) TT [0, 5, 22, 23, 24]) [] (by kernel_rfl) (fun w' hw' => ?_) ?_
  · refine ask_do rfl fun K hK => ?_
    go_simp
    exact hK _ _ rfl (Sl.build [[.int .u64 0], [.int .u64 5], [.int .u64 22], [.int .u64 23], [.int .u64 24]] rfl ⟨⟨rfl, by decide⟩, ⟨rfl, by decide⟩, ⟨rfl, by decide⟩, ⟨rfl, by decide⟩, ⟨rfl, by decide⟩, trivial⟩ rfl (by decide)) (World.grownBy_alloc w' _ none)
  -- op 1 (slot 78): call
  refine MonoR.step (Pv.eq (.int .i64 5)) [(0, 77)] (by kernel_rfl) (fun w' hw' => ?_) ?_
  · intro x77 h77
    have h77 : Sl (encU) TT w' x77 [0, 5, 22, 23, 24] := h77
    obtain ⟨A77, c77, e77, k77, l77⟩ := h77.form
    have e77 : x77 = .slice A77 5 c77 := e77
    subst e77
    refine ask_do rfl fun K hK => ?_
    go_simp
    exact hK _ _ rfl rfl (World.grownBy.refl _ none)
  -- op 2 (slot 79): move
  refine MonoR.step (Pv.eq (.int .i64 0)) [] (by kernel_rfl) (fun w' hw' => ?_) ?_
  · refine ask_do rfl fun K hK => ?_
    go_simp
    exact hK _ _ rfl rfl (World.grownBy.refl _ none)
  intro w9 hww9
  intro v77 h77'
  rintro _ rfl
  rintro _ rfl
  have HBd : Hid (Bk w9 w2.heap.size 25 ps.cells) := Lib.hid (Bk.grown HB.out hww9 (by simp))
  have HGd : Hid (w.grownBy w9 none) := Lib.hid ((HG.out).trans hww9)
  have HS2d : Hid (Sl (encS encU) TT w9 v2 [[13, 16], [18, 9]]) := Lib.hid (Sl.kept HS2.out hww9)
  have HS3d : Hid (Sl (encS (encS encU)) TT w9 v3 [[[13, 1], [2, 3]], [[18, 4], [6, 8]]]) := Lib.hid (Sl.kept HS3.out hww9)
  clear HB
  have HB := HBd
  clear HBd
  clear HG
  have HG := HGd
  clear HGd
  clear HS2
  have HS2 := HS2d
  clear HS2d
  clear HS3
  have HS3 := HS3d
  clear HS3d
  have HS77 : Hid (Sl (encU) TT w9 v77 [0, 5, 22, 23, 24]) := Lib.hid h77'
  clear h77'
  clear hww9
  refine wpList_nil ?_
  simp only [Act.put, List.setIfInBounds_toArray, List.set_cons_zero, List.set_cons_succ]
  obtain ⟨A77, c77, e77, _, _⟩ := HS77.out.form
  have e77 : v77 = .slice A77 5 c77 := e77
  subst e77
  have HSTL : Hid (w9.grownBy w9 none) := Lib.hid (World.grownBy.refl w9 none)
  go_wp2_with fail
  go_loopg [79] 5 (fun g s79 wx => ∃ j : Nat, j + g = 5 ∧ s79 = .int .i64 j ∧ Hid (w9.grownBy wx none))
  case atStart => exact ⟨0, by omega, rfl, HSTL⟩
  case round =>
    obtain ⟨j, hj, rfl, HX⟩ := hrel
    cases gk with
    | succ k =>
      have hjn : (j : Int) < 5 := by omega
      have hj0 : (0 : Int) ≤ (j : Int) := by omega
      have hjl : j < ([0, 5, 22, 23, 24] : List Int).length := by simp; omega
      obtain ⟨g, o, c', e, _, _, hcu, hu⟩ := (HS77.out.kept HX.out).atU hjl
      injection e with e1 e2 e3
      subst e1 e3
      obtain ⟨x, hx⟩ : ∃ x, x = ([0, 5, 22, 23, 24] : List Int)[j] := ⟨_, rfl⟩
      rw [← hx] at hcu hu
      have hm : x ∈ ([0, 5, 22, 23, 24] : List Int) := by rw [hx]; exact List.getElem_mem hjl
      have HXU := Lib.hid hu
      have HE1 := Lib.hid ((show ∀ x ∈ ([0, 5, 22, 23, 24] : List Int), formedB ps [[13, x], [18, 9]] = false by decide +kernel) x hm)
      have HE2 := Lib.hid ((show ∀ x ∈ ([0, 5, 22, 23, 24] : List Int), squareB ps [[[13, 1], [2, x]], [[18, 4], [6, 8]]] = false by decide +kernel) x hm)
      have HE3 := Lib.hid ((show ∀ x ∈ ([0, 5, 22, 23, 24] : List Int), bondedB ps [[[13, 1], [2, x]], [[18, 4], [6, 8]]] [[13, 16], [18, 9]] 0 = false by decide +kernel) x hm)
      have HE4 := Lib.hid ((show ∀ x ∈ ([0, 5, 22, 23, 24] : List Int), bondedB ps [[[13, 1], [2, 3]], [[18, 4], [6, 8]]] [[13, x], [18, 9]] 0 = false by decide +kernel) x hm)
      have HBl := Lib.hid (HB.out.grown HX.out (by simp))
      have HGl := HX
      have HSl2 := Lib.hid (HS2.out.kept HX.out)
      have HSl3 := Lib.hid (HS3.out.kept HX.out)
      clear hx hu hm e2 HX hjl
      go_upto_region 14 with (fail)
      refine wp_region_seqm 9 (by kernel_rfl) ?_
      -- op 0 (slot 83): buildSlice
      refine MonoR.step (Pv.sl (encU) TT [13, 1]) [] (by kernel_rfl) (fun w' hw' => ?_) ?_
      · refine ask_do rfl fun K hK => ?_
        go_simp
        exact hK _ _ rfl (Sl.build [[.int .u64 13], [.int .u64 1]] rfl ⟨⟨rfl, by decide⟩, ⟨rfl, by decide⟩, trivial⟩ rfl (by decide)) (World.grownBy_alloc w' _ none)
      -- op 1 (slot 84): move
      refine MonoR.step (Pv.eq (.int .u64 x)) [] (by kernel_rfl) (fun w' hw' => ?_) ?_
      · refine ask_do rfl fun K hK => ?_
        go_simp
        exact hK _ _ rfl rfl (World.grownBy.refl _ none)
      -- op 2 (slot 85): buildSlice
      refine MonoR.step (Pv.sl (encU) TT [2, x]) [(1, 84)] (by kernel_rfl) (fun w' hw' => ?_) ?_
      · rintro _ rfl
        refine ask_do rfl fun K hK => ?_
        go_simp
        exact hK _ _ rfl (Sl.build [[.int .u64 2], [.int .u64 x]] rfl ⟨⟨rfl, by decide⟩, ⟨rfl, HXU.out⟩, trivial⟩ rfl (by decide)) (World.grownBy_alloc w' _ none)
      -- op 3 (slot 86): buildSlice
      refine MonoR.step (Pv.sl (encS encU) TT [[13, 1], [2, x]]) [(0, 83), (2, 85)] (by kernel_rfl) (fun w' hw' => ?_) ?_
      · intro x83 h83
        have h83 : Sl (encU) TT w' x83 [13, 1] := h83
        obtain ⟨A83, c83, e83, k83, l83⟩ := h83.form
        have e83 : x83 = .slice A83 2 c83 := e83
        subst e83
        intro x85 h85
        have h85 : Sl (encU) TT w' x85 [2, x] := h85
        obtain ⟨A85, c85, e85, k85, l85⟩ := h85.form
        have e85 : x85 = .slice A85 2 c85 := e85
        subst e85
        refine ask_do rfl fun K hK => ?_
        go_simp
        exact hK _ _ rfl (Sl.build [[.slice A83 2 c83], [.slice A85 2 c85]] rfl ⟨⟨_, rfl, h83⟩, ⟨_, rfl, h85⟩, trivial⟩ rfl (by decide)) (World.grownBy_alloc w' _ none)
      -- op 4 (slot 87): buildSlice
      refine MonoR.step (Pv.sl (encU) TT [18, 4]) [] (by kernel_rfl) (fun w' hw' => ?_) ?_
      · refine ask_do rfl fun K hK => ?_
        go_simp
        exact hK _ _ rfl (Sl.build [[.int .u64 18], [.int .u64 4]] rfl ⟨⟨rfl, by decide⟩, ⟨rfl, by decide⟩, trivial⟩ rfl (by decide)) (World.grownBy_alloc w' _ none)
      -- op 5 (slot 88): buildSlice
      refine MonoR.step (Pv.sl (encU) TT [6, 8]) [] (by kernel_rfl) (fun w' hw' => ?_) ?_
      · refine ask_do rfl fun K hK => ?_
        go_simp
        exact hK _ _ rfl (Sl.build [[.int .u64 6], [.int .u64 8]] rfl ⟨⟨rfl, by decide⟩, ⟨rfl, by decide⟩, trivial⟩ rfl (by decide)) (World.grownBy_alloc w' _ none)
      -- op 6 (slot 89): buildSlice
      refine MonoR.step (Pv.sl (encS encU) TT [[18, 4], [6, 8]]) [(4, 87), (5, 88)] (by kernel_rfl) (fun w' hw' => ?_) ?_
      · intro x87 h87
        have h87 : Sl (encU) TT w' x87 [18, 4] := h87
        obtain ⟨A87, c87, e87, k87, l87⟩ := h87.form
        have e87 : x87 = .slice A87 2 c87 := e87
        subst e87
        intro x88 h88
        have h88 : Sl (encU) TT w' x88 [6, 8] := h88
        obtain ⟨A88, c88, e88, k88, l88⟩ := h88.form
        have e88 : x88 = .slice A88 2 c88 := e88
        subst e88
        refine ask_do rfl fun K hK => ?_
        go_simp
        exact hK _ _ rfl (Sl.build [[.slice A87 2 c87], [.slice A88 2 c88]] rfl ⟨⟨_, rfl, h87⟩, ⟨_, rfl, h88⟩, trivial⟩ rfl (by decide)) (World.grownBy_alloc w' _ none)
      -- op 7 (slot 90): buildSlice
      refine MonoR.step (Pv.sl (encS (encS encU)) TT [[[13, 1], [2, x]], [[18, 4], [6, 8]]]) [(3, 86), (6, 89)] (by kernel_rfl) (fun w' hw' => ?_) ?_
      · intro x86 h86
        have h86 : Sl (encS encU) TT w' x86 [[13, 1], [2, x]] := h86
        obtain ⟨A86, c86, e86, k86, l86⟩ := h86.form
        have e86 : x86 = .slice A86 2 c86 := e86
        subst e86
        intro x89 h89
        have h89 : Sl (encS encU) TT w' x89 [[18, 4], [6, 8]] := h89
        obtain ⟨A89, c89, e89, k89, l89⟩ := h89.form
        have e89 : x89 = .slice A89 2 c89 := e89
        subst e89
        refine ask_do rfl fun K hK => ?_
        go_simp
        exact hK _ _ rfl (Sl.build [[.slice A86 2 c86], [.slice A89 2 c89]] rfl ⟨⟨_, rfl, h86⟩, ⟨_, rfl, h89⟩, trivial⟩ rfl (by decide)) (World.grownBy_alloc w' _ none)
      -- op 8 (slot 8): assign
      refine MonoR.step (Pv.sl (encS (encS encU)) TT [[[13, 1], [2, x]], [[18, 4], [6, 8]]]) [(7, 90)] (by kernel_rfl) (fun w' hw' => ?_) ?_
      · intro x90 h90
        have h90 : Sl (encS (encS encU)) TT w' x90 [[[13, 1], [2, x]], [[18, 4], [6, 8]]] := h90
        refine ask_do rfl fun K hK => ?_
        go_simp
        exact hK _ _ rfl h90 (World.grownBy.refl _ none)
      intro wa hwwa
      intro _ _
      intro _ _
      intro _ _
      intro _ _
      intro _ _
      intro _ _
      intro _ _
      intro _ _
      intro v8 h8'
      have HBld : Hid (Bk wa w2.heap.size 25 ps.cells) := Lib.hid (Bk.grown HBl.out hwwa (by simp))
      have HGld : Hid (w9.grownBy wa none) := Lib.hid ((HGl.out).trans hwwa)
      have HSl2d : Hid (Sl (encS encU) TT wa v2 [[13, 16], [18, 9]]) := Lib.hid (Sl.kept HSl2.out hwwa)
      have HSl3d : Hid (Sl (encS (encS encU)) TT wa v3 [[[13, 1], [2, 3]], [[18, 4], [6, 8]]]) := Lib.hid (Sl.kept HSl3.out hwwa)
      clear HBl
      have HBl := HBld
      clear HBld
      clear HGl
      have HGl := HGld
      clear HGld
      clear HSl2
      have HSl2 := HSl2d
      clear HSl2d
      clear HSl3
      have HSl3 := HSl3d
      clear HSl3d
      have HS8 : Hid (Sl (encS (encS encU)) TT wa v8 [[[13, 1], [2, x]], [[18, 4], [6, 8]]]) := Lib.hid h8'
      clear h8'
      clear hwwa
      refine wpList_nil ?_
      simp only [Act.put, List.setIfInBounds_toArray, List.set_cons_zero, List.set_cons_succ]
      go_upto_region 15 with (fail)
      refine wp_region_seqm 26 (by kernel_rfl) ?_
      -- op 0 (slot 91): load
      refine MonoR.step (Pv.eq (ps.v)) [] (by kernel_rfl) (fun w' hw' => ?_) ?_
      · refine ask_do rfl fun K hK => ?_
        have hp := (HBl.out.grown hw' (by simp)).prule
        go_simp
        exact hK _ _ rfl rfl (World.grownBy.refl _ none)
      -- op 1 (slot 92): move
      refine MonoR.step (Pv.eq (.int .u64 x)) [] (by kernel_rfl) (fun w' hw' => ?_) ?_
      · refine ask_do rfl fun K hK => ?_
        go_simp
        exact hK _ _ rfl rfl (World.grownBy.refl _ none)
      -- op 2 (slot 93): buildSlice
      refine MonoR.step (Pv.sl (encU) TT [13, x]) [(1, 92)] (by kernel_rfl) (fun w' hw' => ?_) ?_
      · rintro _ rfl
        refine ask_do rfl fun K hK => ?_
        go_simp
        exact hK _ _ rfl (Sl.build [[.int .u64 13], [.int .u64 x]] rfl ⟨⟨rfl, by decide⟩, ⟨rfl, HXU.out⟩, trivial⟩ rfl (by decide)) (World.grownBy_alloc w' _ none)
      -- op 3 (slot 94): buildSlice
      refine MonoR.step (Pv.sl (encU) TT [18, 9]) [] (by kernel_rfl) (fun w' hw' => ?_) ?_
      · refine ask_do rfl fun K hK => ?_
        go_simp
        exact hK _ _ rfl (Sl.build [[.int .u64 18], [.int .u64 9]] rfl ⟨⟨rfl, by decide⟩, ⟨rfl, by decide⟩, trivial⟩ rfl (by decide)) (World.grownBy_alloc w' _ none)
      -- op 4 (slot 95): buildSlice
      refine MonoR.step (Pv.sl (encS encU) TT [[13, x], [18, 9]]) [(2, 93), (3, 94)] (by kernel_rfl) (fun w' hw' => ?_) ?_
      · intro x93 h93
        have h93 : Sl (encU) TT w' x93 [13, x] := h93
        obtain ⟨A93, c93, e93, k93, l93⟩ := h93.form
        have e93 : x93 = .slice A93 2 c93 := e93
        subst e93
        intro x94 h94
        have h94 : Sl (encU) TT w' x94 [18, 9] := h94
        obtain ⟨A94, c94, e94, k94, l94⟩ := h94.form
        have e94 : x94 = .slice A94 2 c94 := e94
        subst e94
        refine ask_do rfl fun K hK => ?_
        go_simp
        exact hK _ _ rfl (Sl.build [[.slice A93 2 c93], [.slice A94 2 c94]] rfl ⟨⟨_, rfl, h93⟩, ⟨_, rfl, h94⟩, trivial⟩ rfl (by decide)) (World.grownBy_alloc w' _ none)
      -- op 5 (slot 96): call
      refine MonoR.step (Pv.eq (.bool false)) [(0, 91), (4, 95)] (by kernel_rfl) (fun w' hw' => ?_) ?_
      · rintro _ rfl
        intro x95 h95
        have h95 : Sl (encS encU) TT w' x95 [[13, x], [18, 9]] := h95
        refine ask_do rfl fun K hK => ?_
        go_simp
        refine (formed_any ps _ [[13, x], [18, 9]] TT w' ps_ok h95).mono ?_
        rintro e w3 ⟨rfl, hg⟩
        rw [HE1.out]
        exact hK _ _ rfl rfl hg
      -- op 6 (slot 97): move
      refine MonoR.step (Pv.eq (.bool false)) [(5, 96)] (by kernel_rfl) (fun w' hw' => ?_) ?_
      · rintro _ rfl
        refine ask_do rfl fun K hK => ?_
        go_simp
        exact hK _ _ rfl rfl (World.grownBy.refl _ none)
      -- op 7 (slot 98): load
      refine MonoR.step (Pv.eq (ps.v)) [(6, 97)] (by kernel_rfl) (fun w' hw' => ?_) ?_
      · rintro _ rfl
        refine ask_do rfl fun K hK => ?_
        have hp := (HBl.out.grown hw' (by simp)).prule
        go_simp
        exact hK _ _ rfl rfl (World.grownBy.refl _ none)
      -- op 8 (slot 99): move
      refine MonoR.step (Pv.sl (encS (encS encU)) TT [[[13, 1], [2, x]], [[18, 4], [6, 8]]]) [(6, 97)] (by kernel_rfl) (fun w' hw' => ?_) ?_
      · rintro _ rfl
        refine ask_do rfl fun K hK => ?_
        go_simp
        exact hK _ _ rfl (HS8.out.kept hw') (World.grownBy.refl _ none)
      -- op 9 (slot 100): call
      refine MonoR.step (Pv.eq (.bool false)) [(6, 97), (7, 98), (8, 99)] (by kernel_rfl) (fun w' hw' => ?_) ?_
      · rintro _ rfl
        rintro _ rfl
        intro x99 h99
        have h99 : Sl (encS (encS encU)) TT w' x99 [[[13, 1], [2, x]], [[18, 4], [6, 8]]] := h99
        refine ask_do rfl fun K hK => ?_
        go_simp
        refine (square_any ps _ [[[13, 1], [2, x]], [[18, 4], [6, 8]]] TT w' ps_ok h99).mono ?_
        rintro e w3 ⟨rfl, hg⟩
        rw [HE2.out]
        exact hK _ _ rfl rfl hg
      -- op 10 (slot 101): pick
      refine MonoR.step (Pv.eq (.bool false)) [(6, 97), (9, 100)] (by kernel_rfl) (fun w' hw' => ?_) ?_
      · rintro _ rfl
        rintro _ rfl
        refine ask_do rfl fun K hK => ?_
        go_simp
        exact hK _ _ rfl rfl (World.grownBy.refl _ none)
      -- op 11 (slot 102): move
      refine MonoR.step (Pv.eq (.bool false)) [(10, 101)] (by kernel_rfl) (fun w' hw' => ?_) ?_
      · rintro _ rfl
        refine ask_do rfl fun K hK => ?_
        go_simp
        exact hK _ _ rfl rfl (World.grownBy.refl _ none)
      -- op 12 (slot 103): load
      refine MonoR.step (Pv.eq (ps.v)) [(11, 102)] (by kernel_rfl) (fun w' hw' => ?_) ?_
      · rintro _ rfl
        refine ask_do rfl fun K hK => ?_
        have hp := (HBl.out.grown hw' (by simp)).prule
        go_simp
        exact hK _ _ rfl rfl (World.grownBy.refl _ none)
      -- op 13 (slot 104): move
      refine MonoR.step (Pv.sl (encS (encS encU)) TT [[[13, 1], [2, x]], [[18, 4], [6, 8]]]) [(11, 102)] (by kernel_rfl) (fun w' hw' => ?_) ?_
      · rintro _ rfl
        refine ask_do rfl fun K hK => ?_
        go_simp
        exact hK _ _ rfl (HS8.out.kept hw') (World.grownBy.refl _ none)
      -- op 14 (slot 105): move
      refine MonoR.step (Pv.sl (encS encU) TT [[13, 16], [18, 9]]) [(11, 102)] (by kernel_rfl) (fun w' hw' => ?_) ?_
      · rintro _ rfl
        refine ask_do rfl fun K hK => ?_
        go_simp
        exact hK _ _ rfl (HSl2.out.kept hw') (World.grownBy.refl _ none)
      -- op 15 (slot 106): call
      refine MonoR.step (Pv.eq (.bool false)) [(11, 102), (12, 103), (13, 104), (14, 105)] (by kernel_rfl) (fun w' hw' => ?_) ?_
      · rintro _ rfl
        rintro _ rfl
        intro x104 h104
        have h104 : Sl (encS (encS encU)) TT w' x104 [[[13, 1], [2, x]], [[18, 4], [6, 8]]] := h104
        intro x105 h105
        have h105 : Sl (encS encU) TT w' x105 [[13, 16], [18, 9]] := h105
        refine ask_do rfl fun K hK => ?_
        go_simp
        refine (bonded_any ps _ _ [[[13, 1], [2, x]], [[18, 4], [6, 8]]] [[13, 16], [18, 9]] 0 TT TT w' ps_ok h104 h105 ⟨by decide, by decide⟩ (by decide)).mono ?_
        rintro e w3 ⟨rfl, hg⟩
        rw [HE3.out]
        exact hK _ _ rfl rfl hg
      -- op 16 (slot 107): pick
      refine MonoR.step (Pv.eq (.bool false)) [(11, 102), (15, 106)] (by kernel_rfl) (fun w' hw' => ?_) ?_
      · rintro _ rfl
        rintro _ rfl
        refine ask_do rfl fun K hK => ?_
        go_simp
        exact hK _ _ rfl rfl (World.grownBy.refl _ none)
      -- op 17 (slot 108): move
      refine MonoR.step (Pv.eq (.bool false)) [(16, 107)] (by kernel_rfl) (fun w' hw' => ?_) ?_
      · rintro _ rfl
        refine ask_do rfl fun K hK => ?_
        go_simp
        exact hK _ _ rfl rfl (World.grownBy.refl _ none)
      -- op 18 (slot 109): load
      refine MonoR.step (Pv.eq (ps.v)) [(17, 108)] (by kernel_rfl) (fun w' hw' => ?_) ?_
      · rintro _ rfl
        refine ask_do rfl fun K hK => ?_
        have hp := (HBl.out.grown hw' (by simp)).prule
        go_simp
        exact hK _ _ rfl rfl (World.grownBy.refl _ none)
      -- op 19 (slot 110): move
      refine MonoR.step (Pv.sl (encS (encS encU)) TT [[[13, 1], [2, 3]], [[18, 4], [6, 8]]]) [(17, 108)] (by kernel_rfl) (fun w' hw' => ?_) ?_
      · rintro _ rfl
        refine ask_do rfl fun K hK => ?_
        go_simp
        exact hK _ _ rfl (HSl3.out.kept hw') (World.grownBy.refl _ none)
      -- op 20 (slot 111): move
      refine MonoR.step (Pv.eq (.int .u64 x)) [(17, 108)] (by kernel_rfl) (fun w' hw' => ?_) ?_
      · rintro _ rfl
        refine ask_do rfl fun K hK => ?_
        go_simp
        exact hK _ _ rfl rfl (World.grownBy.refl _ none)
      -- op 21 (slot 112): buildSlice
      refine MonoR.step (Pv.sl (encU) TT [13, x]) [(17, 108), (20, 111)] (by kernel_rfl) (fun w' hw' => ?_) ?_
      · rintro _ rfl
        rintro _ rfl
        refine ask_do rfl fun K hK => ?_
        go_simp
        exact hK _ _ rfl (Sl.build [[.int .u64 13], [.int .u64 x]] rfl ⟨⟨rfl, by decide⟩, ⟨rfl, HXU.out⟩, trivial⟩ rfl (by decide)) (World.grownBy_alloc w' _ none)
      -- op 22 (slot 113): buildSlice
      refine MonoR.step (Pv.sl (encU) TT [18, 9]) [(17, 108)] (by kernel_rfl) (fun w' hw' => ?_) ?_
      · rintro _ rfl
        refine ask_do rfl fun K hK => ?_
        go_simp
        exact hK _ _ rfl (Sl.build [[.int .u64 18], [.int .u64 9]] rfl ⟨⟨rfl, by decide⟩, ⟨rfl, by decide⟩, trivial⟩ rfl (by decide)) (World.grownBy_alloc w' _ none)
      -- op 23 (slot 114): buildSlice
      refine MonoR.step (Pv.sl (encS encU) TT [[13, x], [18, 9]]) [(17, 108), (21, 112), (22, 113)] (by kernel_rfl) (fun w' hw' => ?_) ?_
      · rintro _ rfl
        intro x112 h112
        have h112 : Sl (encU) TT w' x112 [13, x] := h112
        obtain ⟨A112, c112, e112, k112, l112⟩ := h112.form
        have e112 : x112 = .slice A112 2 c112 := e112
        subst e112
        intro x113 h113
        have h113 : Sl (encU) TT w' x113 [18, 9] := h113
        obtain ⟨A113, c113, e113, k113, l113⟩ := h113.form
        have e113 : x113 = .slice A113 2 c113 := e113
        subst e113
        refine ask_do rfl fun K hK => ?_
        go_simp
        exact hK _ _ rfl (Sl.build [[.slice A112 2 c112], [.slice A113 2 c113]] rfl ⟨⟨_, rfl, h112⟩, ⟨_, rfl, h113⟩, trivial⟩ rfl (by decide)) (World.grownBy_alloc w' _ none)
      -- op 24 (slot 115): call
      refine MonoR.step (Pv.eq (.bool false)) [(17, 108), (18, 109), (19, 110), (23, 114)] (by kernel_rfl) (fun w' hw' => ?_) ?_
      · rintro _ rfl
        rintro _ rfl
        intro x110 h110
        have h110 : Sl (encS (encS encU)) TT w' x110 [[[13, 1], [2, 3]], [[18, 4], [6, 8]]] := h110
        intro x114 h114
        have h114 : Sl (encS encU) TT w' x114 [[13, x], [18, 9]] := h114
        refine ask_do rfl fun K hK => ?_
        go_simp
        refine (bonded_any ps _ _ [[[13, 1], [2, 3]], [[18, 4], [6, 8]]] [[13, x], [18, 9]] 0 TT TT w' ps_ok h110 h114 ⟨by decide, by decide⟩ (by simp)).mono ?_
        rintro e w3 ⟨rfl, hg⟩
        rw [HE4.out]
        exact hK _ _ rfl rfl hg
      -- op 25 (slot 116): pick
      refine MonoR.step (Pv.eq (.bool false)) [(17, 108), (24, 115)] (by kernel_rfl) (fun w' hw' => ?_) ?_
      · rintro _ rfl
        rintro _ rfl
        refine ask_do rfl fun K hK => ?_
        go_simp
        exact hK _ _ rfl rfl (World.grownBy.refl _ none)
      intro wb hwwb
      intro _ _
      intro _ _
      intro _ _
      intro _ _
      intro _ _
      intro _ _
      intro _ _
      intro _ _
      intro _ _
      intro _ _
      intro _ _
      intro _ _
      intro _ _
      intro _ _
      intro _ _
      intro _ _
      intro _ _
      intro _ _
      intro _ _
      intro _ _
      intro _ _
      intro _ _
      intro _ _
      intro _ _
      intro _ _
      rintro _ rfl
      have HBld : Hid (Bk wb w2.heap.size 25 ps.cells) := Lib.hid (Bk.grown HBl.out hwwb (by simp))
      have HGld : Hid (w9.grownBy wb none) := Lib.hid ((HGl.out).trans hwwb)
      have HSl2d : Hid (Sl (encS encU) TT wb v2 [[13, 16], [18, 9]]) := Lib.hid (Sl.kept HSl2.out hwwb)
      have HSl3d : Hid (Sl (encS (encS encU)) TT wb v3 [[[13, 1], [2, 3]], [[18, 4], [6, 8]]]) := Lib.hid (Sl.kept HSl3.out hwwb)
      have HS8d : Hid (Sl (encS (encS encU)) TT wb v8 [[[13, 1], [2, x]], [[18, 4], [6, 8]]]) := Lib.hid (Sl.kept HS8.out hwwb)
      clear HBl
      have HBl := HBld
      clear HBld
      clear HGl
      have HGl := HGld
      clear HGld
      clear HSl2
      have HSl2 := HSl2d
      clear HSl2d
      clear HSl3
      have HSl3 := HSl3d
      clear HSl3d
      clear HS8
      have HS8 := HS8d
      clear HS8d
      clear hwwb
      refine wpList_nil ?_
      simp only [Act.put, List.setIfInBounds_toArray, List.set_cons_zero, List.set_cons_succ]
      clear HE1 HE2 HE3 HE4 HXU HSl2 HSl3 HS8
      go_wp2_with fail
      go_roundg k
      case measure => omega
      case rel => exact ⟨j + 1, by omega, by go_num, HGl⟩
    | zero =>
    obtain rfl : j = 5 := by omega
    have HBk := Lib.hid (HB.out.grown HX.out (by simp))
    have HGk : Hid (w.grownBy wr none) := Lib.hid (HG.out.trans HX.out)
    obtain ⟨wk, hwk⟩ : ∃ wk, wk = wr := ⟨_, rfl⟩
    subst hwk
    clear HX HB HG HS2 HS3 HS77 HSTL
    go_upto_region 18 with (fail)
    refine wp_region_seqm 13 (by kernel_rfl) ?_
    -- op 0 (slot 118): buildSlice
    refine MonoR.step (Pv.sl (encU) TT [13, 16, 1]) [] (by kernel_rfl) (fun w' hw' => ?_) ?_
    · refine ask_do rfl fun K hK => ?_
      go_simp
      exact hK _ _ rfl (Sl.build [[.int .u64 13], [.int .u64 16], [.int .u64 1]] rfl ⟨⟨rfl, by decide⟩, ⟨rfl, by decide⟩, ⟨rfl, by decide⟩, trivial⟩ rfl (by decide)) (World.grownBy_alloc w' _ none)
    -- op 1 (slot 119): buildSlice
    refine MonoR.step (Pv.sl (encU) TT [18, 9]) [] (by kernel_rfl) (fun w' hw' => ?_) ?_
    · refine ask_do rfl fun K hK => ?_
      go_simp
      exact hK _ _ rfl (Sl.build [[.int .u64 18], [.int .u64 9]] rfl ⟨⟨rfl, by decide⟩, ⟨rfl, by decide⟩, trivial⟩ rfl (by decide)) (World.grownBy_alloc w' _ none)
    -- op 2 (slot 120): buildSlice
    refine MonoR.step (Pv.sl (encS encU) TT [[13, 16, 1], [18, 9]]) [(0, 118), (1, 119)] (by kernel_rfl) (fun w' hw' => ?_) ?_
    · intro x118 h118
      have h118 : Sl (encU) TT w' x118 [13, 16, 1] := h118
      obtain ⟨A118, c118, e118, k118, l118⟩ := h118.form
      have e118 : x118 = .slice A118 3 c118 := e118
      subst e118
      intro x119 h119
      have h119 : Sl (encU) TT w' x119 [18, 9] := h119
      obtain ⟨A119, c119, e119, k119, l119⟩ := h119.form
      have e119 : x119 = .slice A119 2 c119 := e119
      subst e119
      refine ask_do rfl fun K hK => ?_
      go_simp
      exact hK _ _ rfl (Sl.build [[.slice A118 3 c118], [.slice A119 2 c119]] rfl ⟨⟨_, rfl, h118⟩, ⟨_, rfl, h119⟩, trivial⟩ rfl (by decide)) (World.grownBy_alloc w' _ none)
    -- op 3 (slot 121): buildSlice
    refine MonoR.step (Pv.sl (encU) TT [13]) [] (by kernel_rfl) (fun w' hw' => ?_) ?_
    · refine ask_do rfl fun K hK => ?_
      go_simp
      exact hK _ _ rfl (Sl.build [[.int .u64 13]] rfl ⟨⟨rfl, by decide⟩, trivial⟩ rfl (by decide)) (World.grownBy_alloc w' _ none)
    -- op 4 (slot 122): buildSlice
    refine MonoR.step (Pv.sl (encU) TT [18, 9]) [] (by kernel_rfl) (fun w' hw' => ?_) ?_
    · refine ask_do rfl fun K hK => ?_
      go_simp
      exact hK _ _ rfl (Sl.build [[.int .u64 18], [.int .u64 9]] rfl ⟨⟨rfl, by decide⟩, ⟨rfl, by decide⟩, trivial⟩ rfl (by decide)) (World.grownBy_alloc w' _ none)
    -- op 5 (slot 123): buildSlice
    refine MonoR.step (Pv.sl (encS encU) TT [[13], [18, 9]]) [(3, 121), (4, 122)] (by kernel_rfl) (fun w' hw' => ?_) ?_
    · intro x121 h121
      have h121 : Sl (encU) TT w' x121 [13] := h121
      obtain ⟨A121, c121, e121, k121, l121⟩ := h121.form
      have e121 : x121 = .slice A121 1 c121 := e121
      subst e121
      intro x122 h122
      have h122 : Sl (encU) TT w' x122 [18, 9] := h122
      obtain ⟨A122, c122, e122, k122, l122⟩ := h122.form
      have e122 : x122 = .slice A122 2 c122 := e122
      subst e122
      refine ask_do rfl fun K hK => ?_
      go_simp
      exact hK _ _ rfl (Sl.build [[.slice A121 1 c121], [.slice A122 2 c122]] rfl ⟨⟨_, rfl, h121⟩, ⟨_, rfl, h122⟩, trivial⟩ rfl (by decide)) (World.grownBy_alloc w' _ none)
    -- op 6 (slot 124): buildSlice
    refine MonoR.step (Pv.sl (encU) TT [13, 16]) [] (by kernel_rfl) (fun w' hw' => ?_) ?_
    · refine ask_do rfl fun K hK => ?_
      go_simp
      exact hK _ _ rfl (Sl.build [[.int .u64 13], [.int .u64 16]] rfl ⟨⟨rfl, by decide⟩, ⟨rfl, by decide⟩, trivial⟩ rfl (by decide)) (World.grownBy_alloc w' _ none)
    -- op 7 (slot 125): buildSlice
    refine MonoR.step (Pv.sl (encU) TT [18, 9]) [] (by kernel_rfl) (fun w' hw' => ?_) ?_
    · refine ask_do rfl fun K hK => ?_
      go_simp
      exact hK _ _ rfl (Sl.build [[.int .u64 18], [.int .u64 9]] rfl ⟨⟨rfl, by decide⟩, ⟨rfl, by decide⟩, trivial⟩ rfl (by decide)) (World.grownBy_alloc w' _ none)
    -- op 8 (slot 126): buildSlice
    refine MonoR.step (Pv.sl (encU) TT [1, 1]) [] (by kernel_rfl) (fun w' hw' => ?_) ?_
    · refine ask_do rfl fun K hK => ?_
      go_simp
      exact hK _ _ rfl (Sl.build [[.int .u64 1], [.int .u64 1]] rfl ⟨⟨rfl, by decide⟩, ⟨rfl, by decide⟩, trivial⟩ rfl (by decide)) (World.grownBy_alloc w' _ none)
    -- op 9 (slot 127): buildSlice
    refine MonoR.step (Pv.sl (encS encU) TT [[13, 16], [18, 9], [1, 1]]) [(6, 124), (7, 125), (8, 126)] (by kernel_rfl) (fun w' hw' => ?_) ?_
    · intro x124 h124
      have h124 : Sl (encU) TT w' x124 [13, 16] := h124
      obtain ⟨A124, c124, e124, k124, l124⟩ := h124.form
      have e124 : x124 = .slice A124 2 c124 := e124
      subst e124
      intro x125 h125
      have h125 : Sl (encU) TT w' x125 [18, 9] := h125
      obtain ⟨A125, c125, e125, k125, l125⟩ := h125.form
      have e125 : x125 = .slice A125 2 c125 := e125
      subst e125
      intro x126 h126
      have h126 : Sl (encU) TT w' x126 [1, 1] := h126
      obtain ⟨A126, c126, e126, k126, l126⟩ := h126.form
      have e126 : x126 = .slice A126 2 c126 := e126
      subst e126
      refine ask_do rfl fun K hK => ?_
      go_simp
      exact hK _ _ rfl (Sl.build [[.slice A124 2 c124], [.slice A125 2 c125], [.slice A126 2 c126]] rfl ⟨⟨_, rfl, h124⟩, ⟨_, rfl, h125⟩, ⟨_, rfl, h126⟩, trivial⟩ rfl (by decide)) (World.grownBy_alloc w' _ none)
    -- op 10 (slot 128): buildSlice
    refine MonoR.step (Pv.sl (encS (encS encU)) TT [[[13, 16, 1], [18, 9]], [[13], [18, 9]], [[13, 16], [18, 9], [1, 1]], []]) [(2, 120), (5, 123), (9, 127)] (by kernel_rfl) (fun w' hw' => ?_) ?_
    · intro x120 h120
      have h120 : Sl (encS encU) TT w' x120 [[13, 16, 1], [18, 9]] := h120
      obtain ⟨A120, c120, e120, k120, l120⟩ := h120.form
      have e120 : x120 = .slice A120 2 c120 := e120
      subst e120
      intro x123 h123
      have h123 : Sl (encS encU) TT w' x123 [[13], [18, 9]] := h123
      obtain ⟨A123, c123, e123, k123, l123⟩ := h123.form
      have e123 : x123 = .slice A123 2 c123 := e123
      subst e123
      intro x127 h127
      have h127 : Sl (encS encU) TT w' x127 [[13, 16], [18, 9], [1, 1]] := h127
      obtain ⟨A127, c127, e127, k127, l127⟩ := h127.form
      have e127 : x127 = .slice A127 3 c127 := e127
      subst e127
      refine ask_do rfl fun K hK => ?_
      go_simp
      exact hK _ _ rfl (Sl.build [[.slice A120 2 c120], [.slice A123 2 c123], [.slice A127 3 c127], [.slice none 0 0]] rfl ⟨⟨_, rfl, h120⟩, ⟨_, rfl, h123⟩, ⟨_, rfl, h127⟩, ⟨_, rfl, Sl.nil _ TT w'⟩, trivial⟩ rfl (by decide)) (World.grownBy_alloc w' _ none)
    -- op 11 (slot 129): call
    refine MonoR.step (Pv.eq (.int .i64 4)) [(10, 128)] (by kernel_rfl) (fun w' hw' => ?_) ?_
    · intro x128 h128
      have h128 : Sl (encS (encS encU)) TT w' x128 [[[13, 16, 1], [18, 9]], [[13], [18, 9]], [[13, 16], [18, 9], [1, 1]], []] := h128
      obtain ⟨A128, c128, e128, k128, l128⟩ := h128.form
      have e128 : x128 = .slice A128 4 c128 := e128
      subst e128
      refine ask_do rfl fun K hK => ?_
      go_simp
      exact hK _ _ rfl rfl (World.grownBy.refl _ none)
    -- op 12 (slot 130): move
    refine MonoR.step (Pv.eq (.int .i64 0)) [] (by kernel_rfl) (fun w' hw' => ?_) ?_
    · refine ask_do rfl fun K hK => ?_
      go_simp
      exact hK _ _ rfl rfl (World.grownBy.refl _ none)
    intro w10 hww10
    intro _ _
    intro _ _
    intro _ _
    intro _ _
    intro _ _
    intro _ _
    intro _ _
    intro _ _
    intro _ _
    intro _ _
    intro v128 h128'
    rintro _ rfl
    rintro _ rfl
    have HBkd : Hid (Bk w10 w2.heap.size 25 ps.cells) := Lib.hid (Bk.grown HBk.out hww10 (by simp))
    have HGkd : Hid (w.grownBy w10 none) := Lib.hid ((HGk.out).trans hww10)
    clear HBk
    have HBk := HBkd
    clear HBkd
    clear HGk
    have HGk := HGkd
    clear HGkd
    have HS128 : Hid (Sl (encS (encS encU)) TT w10 v128 [[[13, 16, 1], [18, 9]], [[13], [18, 9]], [[13, 16], [18, 9], [1, 1]], []]) := Lib.hid h128'
    clear h128'
    clear hww10
    refine wpList_nil ?_
    simp only [Act.put, List.setIfInBounds_toArray, List.set_cons_zero, List.set_cons_succ]
    obtain ⟨A128, c128, e128, _, _⟩ := HS128.out.form
    have e128 : v128 = .slice A128 4 c128 := e128
    subst e128
    have HSTL : Hid (w10.grownBy w10 none) := Lib.hid (World.grownBy.refl w10 none)
    go_wp2_with fail
    go_loopg [130] 4 (fun g s130 wx => ∃ j : Nat, j + g = 4 ∧ s130 = .int .i64 j ∧ Hid (w10.grownBy wx none))
    case atStart => exact ⟨0, by omega, rfl, HSTL⟩
    case round =>
      obtain ⟨j, hj, rfl, HX⟩ := hrel
      cases gk with
      | succ k =>
        have hjn : (j : Int) < 4 := by omega
        have hj0 : (0 : Int) ≤ (j : Int) := by omega
        have hjl : j < ([[[13, 16, 1], [18, 9]], [[13], [18, 9]], [[13, 16], [18, 9], [1, 1]], []] : List (List (List Int))).length := by simp; omega
        obtain ⟨g, o, c', u, e, _, _, hcu, hu⟩ := (HS128.out.kept HX.out).atS hjl
        injection e with e1 e2 e3
        subst e1 e3
        obtain ⟨bb, hx⟩ : ∃ bb, bb = ([[[13, 16, 1], [18, 9]], [[13], [18, 9]], [[13, 16], [18, 9], [1, 1]], []] : List (List (List Int)))[j] := ⟨_, rfl⟩
        rw [← hx] at hu
        have hm : bb ∈ ([[[13, 16, 1], [18, 9]], [[13], [18, 9]], [[13, 16], [18, 9], [1, 1]], []] : List (List (List Int))) := by rw [hx]; exact List.getElem_mem hjl
        obtain ⟨A10, c10, e10, _, _⟩ := hu.form
        subst e10
        have HS10 := Lib.hid hu
        have HE5 := Lib.hid ((show ∀ b ∈ ([[[13, 16, 1], [18, 9]], [[13], [18, 9]], [[13, 16], [18, 9], [1, 1]], []] : List (List (List Int))), formedB ps b = false by decide +kernel) bb hm)
        have HE6 := Lib.hid ((show ∀ b ∈ ([[[13, 16, 1], [18, 9]], [[13], [18, 9]], [[13, 16], [18, 9], [1, 1]], []] : List (List (List Int))), squareB ps [b, [[18, 4], [6, 8]]] = false by decide +kernel) bb hm)
        have HBl := Lib.hid (HBk.out.grown HX.out (by simp))
        have HGl := HX
        clear hx hu hm e2 HX hjl
        go_upto_region 21 with (fail)
        refine wp_region_seqm 12 (by kernel_rfl) ?_
        -- op 0 (slot 134): load
        refine MonoR.step (Pv.eq (ps.v)) [] (by kernel_rfl) (fun w' hw' => ?_) ?_
        · refine ask_do rfl fun K hK => ?_
          have hp := (HBl.out.grown hw' (by simp)).prule
          go_simp
          exact hK _ _ rfl rfl (World.grownBy.refl _ none)
        -- op 1 (slot 135): move
        refine MonoR.step (Pv.sl (encS encU) TT bb) [] (by kernel_rfl) (fun w' hw' => ?_) ?_
        · refine ask_do rfl fun K hK => ?_
          go_simp
          exact hK _ _ rfl (HS10.out.kept hw') (World.grownBy.refl _ none)
        -- op 2 (slot 136): call
        refine MonoR.step (Pv.eq (.bool false)) [(0, 134), (1, 135)] (by kernel_rfl) (fun w' hw' => ?_) ?_
        · rintro _ rfl
          intro x135 h135
          have h135 : Sl (encS encU) TT w' x135 bb := h135
          refine ask_do rfl fun K hK => ?_
          go_simp
          refine (formed_any ps _ bb TT w' ps_ok h135).mono ?_
          rintro e w3 ⟨rfl, hg⟩
          rw [HE5.out]
          exact hK _ _ rfl rfl hg
        -- op 3 (slot 137): move
        refine MonoR.step (Pv.eq (.bool false)) [(2, 136)] (by kernel_rfl) (fun w' hw' => ?_) ?_
        · rintro _ rfl
          refine ask_do rfl fun K hK => ?_
          go_simp
          exact hK _ _ rfl rfl (World.grownBy.refl _ none)
        -- op 4 (slot 138): load
        refine MonoR.step (Pv.eq (ps.v)) [(3, 137)] (by kernel_rfl) (fun w' hw' => ?_) ?_
        · rintro _ rfl
          refine ask_do rfl fun K hK => ?_
          have hp := (HBl.out.grown hw' (by simp)).prule
          go_simp
          exact hK _ _ rfl rfl (World.grownBy.refl _ none)
        -- op 5 (slot 139): move
        refine MonoR.step (Pv.sl (encS encU) TT bb) [(3, 137)] (by kernel_rfl) (fun w' hw' => ?_) ?_
        · rintro _ rfl
          refine ask_do rfl fun K hK => ?_
          go_simp
          exact hK _ _ rfl (HS10.out.kept hw') (World.grownBy.refl _ none)
        -- op 6 (slot 140): buildSlice
        refine MonoR.step (Pv.sl (encU) TT [18, 4]) [(3, 137)] (by kernel_rfl) (fun w' hw' => ?_) ?_
        · rintro _ rfl
          refine ask_do rfl fun K hK => ?_
          go_simp
          exact hK _ _ rfl (Sl.build [[.int .u64 18], [.int .u64 4]] rfl ⟨⟨rfl, by decide⟩, ⟨rfl, by decide⟩, trivial⟩ rfl (by decide)) (World.grownBy_alloc w' _ none)
        -- op 7 (slot 141): buildSlice
        refine MonoR.step (Pv.sl (encU) TT [6, 8]) [(3, 137)] (by kernel_rfl) (fun w' hw' => ?_) ?_
        · rintro _ rfl
          refine ask_do rfl fun K hK => ?_
          go_simp
          exact hK _ _ rfl (Sl.build [[.int .u64 6], [.int .u64 8]] rfl ⟨⟨rfl, by decide⟩, ⟨rfl, by decide⟩, trivial⟩ rfl (by decide)) (World.grownBy_alloc w' _ none)
        -- op 8 (slot 142): buildSlice
        refine MonoR.step (Pv.sl (encS encU) TT [[18, 4], [6, 8]]) [(3, 137), (6, 140), (7, 141)] (by kernel_rfl) (fun w' hw' => ?_) ?_
        · rintro _ rfl
          intro x140 h140
          have h140 : Sl (encU) TT w' x140 [18, 4] := h140
          obtain ⟨A140, c140, e140, k140, l140⟩ := h140.form
          have e140 : x140 = .slice A140 2 c140 := e140
          subst e140
          intro x141 h141
          have h141 : Sl (encU) TT w' x141 [6, 8] := h141
          obtain ⟨A141, c141, e141, k141, l141⟩ := h141.form
          have e141 : x141 = .slice A141 2 c141 := e141
          subst e141
          refine ask_do rfl fun K hK => ?_
          go_simp
          exact hK _ _ rfl (Sl.build [[.slice A140 2 c140], [.slice A141 2 c141]] rfl ⟨⟨_, rfl, h140⟩, ⟨_, rfl, h141⟩, trivial⟩ rfl (by decide)) (World.grownBy_alloc w' _ none)
        -- op 9 (slot 143): buildSlice
        refine MonoR.step (Pv.sl (encS (encS encU)) TT [bb, [[18, 4], [6, 8]]]) [(3, 137), (5, 139), (8, 142)] (by kernel_rfl) (fun w' hw' => ?_) ?_
        · rintro _ rfl
          intro x139 h139
          have h139 : Sl (encS encU) TT w' x139 bb := h139
          obtain ⟨A139, c139, e139, k139, l139⟩ := h139.form
          have e139 : x139 = .slice A139 bb.length c139 := e139
          subst e139
          intro x142 h142
          have h142 : Sl (encS encU) TT w' x142 [[18, 4], [6, 8]] := h142
          obtain ⟨A142, c142, e142, k142, l142⟩ := h142.form
          have e142 : x142 = .slice A142 2 c142 := e142
          subst e142
          refine ask_do rfl fun K hK => ?_
          go_simp
          exact hK _ _ rfl (Sl.build [[.slice A139 bb.length c139], [.slice A142 2 c142]] rfl ⟨⟨_, rfl, h139⟩, ⟨_, rfl, h142⟩, trivial⟩ rfl (by decide)) (World.grownBy_alloc w' _ none)
        -- op 10 (slot 144): call
        refine MonoR.step (Pv.eq (.bool false)) [(3, 137), (4, 138), (9, 143)] (by kernel_rfl) (fun w' hw' => ?_) ?_
        · rintro _ rfl
          rintro _ rfl
          intro x143 h143
          have h143 : Sl (encS (encS encU)) TT w' x143 [bb, [[18, 4], [6, 8]]] := h143
          refine ask_do rfl fun K hK => ?_
          go_simp
          refine (square_any ps _ [bb, [[18, 4], [6, 8]]] TT w' ps_ok h143).mono ?_
          rintro e w3 ⟨rfl, hg⟩
          rw [HE6.out]
          exact hK _ _ rfl rfl hg
        -- op 11 (slot 145): pick
        refine MonoR.step (Pv.eq (.bool false)) [(3, 137), (10, 144)] (by kernel_rfl) (fun w' hw' => ?_) ?_
        · rintro _ rfl
          rintro _ rfl
          refine ask_do rfl fun K hK => ?_
          go_simp
          exact hK _ _ rfl rfl (World.grownBy.refl _ none)
        intro wa hwwa
        intro _ _
        intro _ _
        intro _ _
        intro _ _
        intro _ _
        intro _ _
        intro _ _
        intro _ _
        intro _ _
        intro _ _
        intro _ _
        rintro _ rfl
        have HBld : Hid (Bk wa w2.heap.size 25 ps.cells) := Lib.hid (Bk.grown HBl.out hwwa (by simp))
        have HGld : Hid (w10.grownBy wa none) := Lib.hid ((HGl.out).trans hwwa)
        have HS10d : Hid (Sl (encS encU) TT wa (.slice A10 bb.length c10) bb) := Lib.hid (Sl.kept HS10.out hwwa)
        clear HBl
        have HBl := HBld
        clear HBld
        clear HGl
        have HGl := HGld
        clear HGld
        clear HS10
        have HS10 := HS10d
        clear HS10d
        clear hwwa
        refine wpList_nil ?_
        simp only [Act.put, List.setIfInBounds_toArray, List.set_cons_zero, List.set_cons_succ]
        clear HE5 HE6 HS10
        go_wp2_with fail
        go_roundg k
        case measure => omega
        case rel => exact ⟨j + 1, by omega, by go_num, HGl⟩
      | zero =>
      obtain rfl : j = 4 := by omega
      obtain ⟨wz, hwz⟩ : ∃ wz, wz = wr := ⟨_, rfl⟩
      subst hwz
      have HBz : Hid (Bk (wz.alloc (.cells pn.cells 25)) w2.heap.size 25 ps.cells) := Lib.hid ((HBk.out.grown HX.out (by simp)).alloc _)
      have HGz : Hid (w.grownBy (wz.alloc (.cells pn.cells 25)) none) := Lib.hid ((HGk.out.trans HX.out).trans (World.grownBy_alloc _ _ none))
      have HBn : Hid (Bk (wz.alloc (.cells pn.cells 25)) wz.heap.size 25 pn.cells) := Lib.hid (Bk.new wz _ _)
      clear HX HBk HGk HS128 HSTL
      go_upto_region 25 with (fail)

      obtain ⟨w11, hw11⟩ : ∃ w11, wz.alloc (.cells pn.cells 25) = w11 := ⟨_, rfl⟩
      rw [hw11] at HBz HGz HBn ⊢
      clear hw11
      refine wp_region_seqm 59 (by kernel_rfl) ?_
      -- op 0 (slot 148): load
      refine MonoR.step (Pv.eq (ps.v)) [] (by kernel_rfl) (fun w' hw' => ?_) ?_
      · refine ask_do rfl fun K hK => ?_
        have hp := (HBz.out.grown hw' (by simp)).prule
        go_simp
        exact hK _ _ rfl rfl (World.grownBy.refl _ none)
      -- op 1 (slot 149): call
      refine MonoR.step (Pv.sl (encS encU) TT []) [(0, 148)] (by kernel_rfl) (fun w' hw' => ?_) ?_
      · rintro _ rfl
        refine ask_do rfl fun K hK => ?_
        go_simp
        refine (coms_any ps _ _ [] [] TT w' ps_ok (Sl.nil _ TT w') (Sl.nil _ TT w') (by decide) (by decide) (by decide) (by decide)).mono ?_
        rintro e w3 ⟨v3, rfl, h3, hg⟩
        rw [(show comsI ps [] [] = [] by decide +kernel)] at h3
        exact hK _ _ rfl (h3.more (fun _ _ _ => trivial)) hg
      -- op 2 (slot 150): call
      refine MonoR.step (Pv.eq (.int .i64 0)) [(1, 149)] (by kernel_rfl) (fun w' hw' => ?_) ?_
      · intro x149 h149
        have h149 : Sl (encS encU) TT w' x149 [] := h149
        obtain ⟨A149, c149, e149, k149, l149⟩ := h149.form
        have e149 : x149 = .slice A149 0 c149 := e149
        subst e149
        refine ask_do rfl fun K hK => ?_
        go_simp
        exact hK _ _ rfl rfl (World.grownBy.refl _ none)
      -- op 3 (slot 151): binOp
      refine MonoR.step (Pv.eq (.bool true)) [(2, 150)] (by kernel_rfl) (fun w' hw' => ?_) ?_
      · rintro _ rfl
        refine ask_do rfl fun K hK => ?_
        go_simp
        exact hK _ _ rfl rfl (World.grownBy.refl _ none)
      -- op 4 (slot 152): move
      refine MonoR.step (Pv.eq (.bool true)) [(3, 151)] (by kernel_rfl) (fun w' hw' => ?_) ?_
      · rintro _ rfl
        refine ask_do rfl fun K hK => ?_
        go_simp
        exact hK _ _ rfl rfl (World.grownBy.refl _ none)
      -- op 5 (slot 153): load
      refine MonoR.step (Pv.eq (ps.v)) [(4, 152)] (by kernel_rfl) (fun w' hw' => ?_) ?_
      · rintro _ rfl
        refine ask_do rfl fun K hK => ?_
        have hp := (HBz.out.grown hw' (by simp)).prule
        go_simp
        exact hK _ _ rfl rfl (World.grownBy.refl _ none)
      -- op 6 (slot 154): call
      refine MonoR.step (Pv.sl (encU) TT []) [(4, 152), (5, 153)] (by kernel_rfl) (fun w' hw' => ?_) ?_
      · rintro _ rfl
        rintro _ rfl
        refine ask_do rfl fun K hK => ?_
        go_simp
        refine (share_any ps _ [] 1 TT w' (Sl.nil _ TT w') ⟨by decide, by decide⟩ (by decide)).mono ?_
        rintro e w3 ⟨v3, rfl, h3, hg⟩
        rw [(show shareI ps [] 1 = [] by decide +kernel)] at h3
        exact hK _ _ rfl (h3.more (fun _ _ _ => trivial)) hg
      -- op 7 (slot 155): call
      refine MonoR.step (Pv.eq (.int .i64 0)) [(4, 152), (6, 154)] (by kernel_rfl) (fun w' hw' => ?_) ?_
      · rintro _ rfl
        intro x154 h154
        have h154 : Sl (encU) TT w' x154 [] := h154
        obtain ⟨A154, c154, e154, k154, l154⟩ := h154.form
        have e154 : x154 = .slice A154 0 c154 := e154
        subst e154
        refine ask_do rfl fun K hK => ?_
        go_simp
        exact hK _ _ rfl rfl (World.grownBy.refl _ none)
      -- op 8 (slot 156): binOp
      refine MonoR.step (Pv.eq (.bool true)) [(4, 152), (7, 155)] (by kernel_rfl) (fun w' hw' => ?_) ?_
      · rintro _ rfl
        rintro _ rfl
        refine ask_do rfl fun K hK => ?_
        go_simp
        exact hK _ _ rfl rfl (World.grownBy.refl _ none)
      -- op 9 (slot 157): pick
      refine MonoR.step (Pv.eq (.bool true)) [(4, 152), (8, 156)] (by kernel_rfl) (fun w' hw' => ?_) ?_
      · rintro _ rfl
        rintro _ rfl
        refine ask_do rfl fun K hK => ?_
        go_simp
        exact hK _ _ rfl rfl (World.grownBy.refl _ none)
      -- op 10 (slot 158): move
      refine MonoR.step (Pv.eq (.bool true)) [(9, 157)] (by kernel_rfl) (fun w' hw' => ?_) ?_
      · rintro _ rfl
        refine ask_do rfl fun K hK => ?_
        go_simp
        exact hK _ _ rfl rfl (World.grownBy.refl _ none)
      -- op 11 (slot 159): load
      refine MonoR.step (Pv.eq (ps.v)) [(10, 158)] (by kernel_rfl) (fun w' hw' => ?_) ?_
      · rintro _ rfl
        refine ask_do rfl fun K hK => ?_
        have hp := (HBz.out.grown hw' (by simp)).prule
        go_simp
        exact hK _ _ rfl rfl (World.grownBy.refl _ none)
      -- op 12 (slot 160): call
      refine MonoR.step (Pv.eq (.bool true)) [(10, 158), (11, 159)] (by kernel_rfl) (fun w' hw' => ?_) ?_
      · rintro _ rfl
        rintro _ rfl
        refine ask_do rfl fun K hK => ?_
        go_simp
        refine (fits_any ps _ [] 1 _ [] TT TT w' ps_ok (Sl.nil _ TT w') ⟨by decide, by decide⟩ (Sl.nil _ TT w') (by decide) (by decide)).mono ?_
        rintro e w3 ⟨rfl, hg⟩
        rw [(show fitsI ps [] 1 [] = true by decide +kernel)]
        exact hK _ _ rfl rfl hg
      -- op 13 (slot 161): pick
      refine MonoR.step (Pv.eq (.bool true)) [(10, 158), (12, 160)] (by kernel_rfl) (fun w' hw' => ?_) ?_
      · rintro _ rfl
        rintro _ rfl
        refine ask_do rfl fun K hK => ?_
        go_simp
        exact hK _ _ rfl rfl (World.grownBy.refl _ none)
      -- op 14 (slot 162): move
      refine MonoR.step (Pv.eq (.bool true)) [(13, 161)] (by kernel_rfl) (fun w' hw' => ?_) ?_
      · rintro _ rfl
        refine ask_do rfl fun K hK => ?_
        go_simp
        exact hK _ _ rfl rfl (World.grownBy.refl _ none)
      -- op 15 (slot 163): load
      refine MonoR.step (Pv.eq (ps.v)) [(14, 162)] (by kernel_rfl) (fun w' hw' => ?_) ?_
      · rintro _ rfl
        refine ask_do rfl fun K hK => ?_
        have hp := (HBz.out.grown hw' (by simp)).prule
        go_simp
        exact hK _ _ rfl rfl (World.grownBy.refl _ none)
      -- op 16 (slot 164): call
      refine MonoR.step (Pv.sl (encS (encS encU)) TT []) [(14, 162), (15, 163)] (by kernel_rfl) (fun w' hw' => ?_) ?_
      · rintro _ rfl
        rintro _ rfl
        refine ask_do rfl fun K hK => ?_
        go_simp
        refine (matrix_any ps _ _ [] [] TT w' ps_ok (Sl.nil _ TT w') (Sl.nil _ TT w') (by decide) (by decide) (by decide) (by decide)).mono ?_
        rintro e w3 ⟨v3, rfl, h3, hg⟩
        rw [(show matI ps [] [] = [] by decide +kernel)] at h3
        exact hK _ _ rfl (h3.more (fun _ _ _ => trivial)) hg
      -- op 17 (slot 165): call
      refine MonoR.step (Pv.eq (.int .i64 0)) [(14, 162), (16, 164)] (by kernel_rfl) (fun w' hw' => ?_) ?_
      · rintro _ rfl
        intro x164 h164
        have h164 : Sl (encS (encS encU)) TT w' x164 [] := h164
        obtain ⟨A164, c164, e164, k164, l164⟩ := h164.form
        have e164 : x164 = .slice A164 0 c164 := e164
        subst e164
        refine ask_do rfl fun K hK => ?_
        go_simp
        exact hK _ _ rfl rfl (World.grownBy.refl _ none)
      -- op 18 (slot 166): binOp
      refine MonoR.step (Pv.eq (.bool true)) [(14, 162), (17, 165)] (by kernel_rfl) (fun w' hw' => ?_) ?_
      · rintro _ rfl
        rintro _ rfl
        refine ask_do rfl fun K hK => ?_
        go_simp
        exact hK _ _ rfl rfl (World.grownBy.refl _ none)
      -- op 19 (slot 167): pick
      refine MonoR.step (Pv.eq (.bool true)) [(14, 162), (18, 166)] (by kernel_rfl) (fun w' hw' => ?_) ?_
      · rintro _ rfl
        rintro _ rfl
        refine ask_do rfl fun K hK => ?_
        go_simp
        exact hK _ _ rfl rfl (World.grownBy.refl _ none)
      -- op 20 (slot 168): move
      refine MonoR.step (Pv.eq (.bool true)) [(19, 167)] (by kernel_rfl) (fun w' hw' => ?_) ?_
      · rintro _ rfl
        refine ask_do rfl fun K hK => ?_
        go_simp
        exact hK _ _ rfl rfl (World.grownBy.refl _ none)
      -- op 21 (slot 169): load
      refine MonoR.step (Pv.eq (ps.v)) [(20, 168)] (by kernel_rfl) (fun w' hw' => ?_) ?_
      · rintro _ rfl
        refine ask_do rfl fun K hK => ?_
        have hp := (HBz.out.grown hw' (by simp)).prule
        go_simp
        exact hK _ _ rfl rfl (World.grownBy.refl _ none)
      -- op 22 (slot 170): call
      refine MonoR.step (Pv.sl (encS encU) TT []) [(20, 168), (21, 169)] (by kernel_rfl) (fun w' hw' => ?_) ?_
      · rintro _ rfl
        rintro _ rfl
        refine ask_do rfl fun K hK => ?_
        go_simp
        refine (rowComs_any ps _ [] 1 TT w' (Sl.nil _ TT w') ⟨by decide, by decide⟩ (by decide) (by decide)).mono ?_
        rintro e w3 ⟨v3, rfl, h3, hg⟩
        rw [(show rowComsI ps [] 1 = [] by decide +kernel)] at h3
        exact hK _ _ rfl (h3.more (fun _ _ _ => trivial)) hg
      -- op 23 (slot 171): call
      refine MonoR.step (Pv.eq (.int .i64 0)) [(20, 168), (22, 170)] (by kernel_rfl) (fun w' hw' => ?_) ?_
      · rintro _ rfl
        intro x170 h170
        have h170 : Sl (encS encU) TT w' x170 [] := h170
        obtain ⟨A170, c170, e170, k170, l170⟩ := h170.form
        have e170 : x170 = .slice A170 0 c170 := e170
        subst e170
        refine ask_do rfl fun K hK => ?_
        go_simp
        exact hK _ _ rfl rfl (World.grownBy.refl _ none)
      -- op 24 (slot 172): binOp
      refine MonoR.step (Pv.eq (.bool true)) [(20, 168), (23, 171)] (by kernel_rfl) (fun w' hw' => ?_) ?_
      · rintro _ rfl
        rintro _ rfl
        refine ask_do rfl fun K hK => ?_
        go_simp
        exact hK _ _ rfl rfl (World.grownBy.refl _ none)
      -- op 25 (slot 173): pick
      refine MonoR.step (Pv.eq (.bool true)) [(20, 168), (24, 172)] (by kernel_rfl) (fun w' hw' => ?_) ?_
      · rintro _ rfl
        rintro _ rfl
        refine ask_do rfl fun K hK => ?_
        go_simp
        exact hK _ _ rfl rfl (World.grownBy.refl _ none)
      -- op 26 (slot 174): move
      refine MonoR.step (Pv.eq (.bool true)) [(25, 173)] (by kernel_rfl) (fun w' hw' => ?_) ?_
      · rintro _ rfl
        refine ask_do rfl fun K hK => ?_
        go_simp
        exact hK _ _ rfl rfl (World.grownBy.refl _ none)
      -- op 27 (slot 175): load
      refine MonoR.step (Pv.eq (ps.v)) [(26, 174)] (by kernel_rfl) (fun w' hw' => ?_) ?_
      · rintro _ rfl
        refine ask_do rfl fun K hK => ?_
        have hp := (HBz.out.grown hw' (by simp)).prule
        go_simp
        exact hK _ _ rfl rfl (World.grownBy.refl _ none)
      -- op 28 (slot 176): call
      refine MonoR.step (Pv.sl (encS encU) TT []) [(26, 174), (27, 175)] (by kernel_rfl) (fun w' hw' => ?_) ?_
      · rintro _ rfl
        rintro _ rfl
        refine ask_do rfl fun K hK => ?_
        go_simp
        refine (colComs_any ps _ [] 1 TT w' (Sl.nil _ TT w') ⟨by decide, by decide⟩ (by decide) (by decide)).mono ?_
        rintro e w3 ⟨v3, rfl, h3, hg⟩
        rw [(show colComsI ps [] 1 = [] by decide +kernel)] at h3
        exact hK _ _ rfl (h3.more (fun _ _ _ => trivial)) hg
      -- op 29 (slot 177): call
      refine MonoR.step (Pv.eq (.int .i64 0)) [(26, 174), (28, 176)] (by kernel_rfl) (fun w' hw' => ?_) ?_
      · rintro _ rfl
        intro x176 h176
        have h176 : Sl (encS encU) TT w' x176 [] := h176
        obtain ⟨A176, c176, e176, k176, l176⟩ := h176.form
        have e176 : x176 = .slice A176 0 c176 := e176
        subst e176
        refine ask_do rfl fun K hK => ?_
        go_simp
        exact hK _ _ rfl rfl (World.grownBy.refl _ none)
      -- op 30 (slot 178): binOp
      refine MonoR.step (Pv.eq (.bool true)) [(26, 174), (29, 177)] (by kernel_rfl) (fun w' hw' => ?_) ?_
      · rintro _ rfl
        rintro _ rfl
        refine ask_do rfl fun K hK => ?_
        go_simp
        exact hK _ _ rfl rfl (World.grownBy.refl _ none)
      -- op 31 (slot 179): pick
      refine MonoR.step (Pv.eq (.bool true)) [(26, 174), (30, 178)] (by kernel_rfl) (fun w' hw' => ?_) ?_
      · rintro _ rfl
        rintro _ rfl
        refine ask_do rfl fun K hK => ?_
        go_simp
        exact hK _ _ rfl rfl (World.grownBy.refl _ none)
      -- op 32 (slot 180): move
      refine MonoR.step (Pv.eq (.bool true)) [(31, 179)] (by kernel_rfl) (fun w' hw' => ?_) ?_
      · rintro _ rfl
        refine ask_do rfl fun K hK => ?_
        go_simp
        exact hK _ _ rfl rfl (World.grownBy.refl _ none)
      -- op 33 (slot 181): load
      refine MonoR.step (Pv.eq (pn.v)) [(32, 180)] (by kernel_rfl) (fun w' hw' => ?_) ?_
      · rintro _ rfl
        refine ask_do rfl fun K hK => ?_
        have hp := (HBn.out.grown hw' (by simp)).prule
        go_simp
        exact hK _ _ rfl rfl (World.grownBy.refl _ none)
      -- op 34 (slot 182): call
      refine MonoR.step (Pv.eq (.bool true)) [(32, 180), (33, 181)] (by kernel_rfl) (fun w' hw' => ?_) ?_
      · rintro _ rfl
        rintro _ rfl
        refine ask_do rfl fun K hK => ?_
        go_simp
        refine (formed_any pn _ [] TT w' pn_ok (Sl.nil _ TT w')).mono ?_
        rintro e w3 ⟨rfl, hg⟩
        rw [(show formedB pn [] = true by decide +kernel)]
        exact hK _ _ rfl rfl hg
      -- op 35 (slot 183): pick
      refine MonoR.step (Pv.eq (.bool true)) [(32, 180), (34, 182)] (by kernel_rfl) (fun w' hw' => ?_) ?_
      · rintro _ rfl
        rintro _ rfl
        refine ask_do rfl fun K hK => ?_
        go_simp
        exact hK _ _ rfl rfl (World.grownBy.refl _ none)
      -- op 36 (slot 184): move
      refine MonoR.step (Pv.eq (.bool true)) [(35, 183)] (by kernel_rfl) (fun w' hw' => ?_) ?_
      · rintro _ rfl
        refine ask_do rfl fun K hK => ?_
        go_simp
        exact hK _ _ rfl rfl (World.grownBy.refl _ none)
      -- op 37 (slot 185): load
      refine MonoR.step (Pv.eq (pn.v)) [(36, 184)] (by kernel_rfl) (fun w' hw' => ?_) ?_
      · rintro _ rfl
        refine ask_do rfl fun K hK => ?_
        have hp := (HBn.out.grown hw' (by simp)).prule
        go_simp
        exact hK _ _ rfl rfl (World.grownBy.refl _ none)
      -- op 38 (slot 186): call
      refine MonoR.step (Pv.eq (.bool true)) [(36, 184), (37, 185)] (by kernel_rfl) (fun w' hw' => ?_) ?_
      · rintro _ rfl
        rintro _ rfl
        refine ask_do rfl fun K hK => ?_
        go_simp
        refine (bonded_any pn _ _ [] [] 1 TT TT w' pn_ok (Sl.nil _ TT w') (Sl.nil _ TT w') ⟨by decide, by decide⟩ (by decide)).mono ?_
        rintro e w3 ⟨rfl, hg⟩
        rw [(show bondedB pn [] [] 1 = true by decide +kernel)]
        exact hK _ _ rfl rfl hg
      -- op 39 (slot 187): pick
      refine MonoR.step (Pv.eq (.bool true)) [(36, 184), (38, 186)] (by kernel_rfl) (fun w' hw' => ?_) ?_
      · rintro _ rfl
        rintro _ rfl
        refine ask_do rfl fun K hK => ?_
        go_simp
        exact hK _ _ rfl rfl (World.grownBy.refl _ none)
      -- op 40 (slot 188): move
      refine MonoR.step (Pv.eq (.bool true)) [(39, 187)] (by kernel_rfl) (fun w' hw' => ?_) ?_
      · rintro _ rfl
        refine ask_do rfl fun K hK => ?_
        go_simp
        exact hK _ _ rfl rfl (World.grownBy.refl _ none)
      -- op 41 (slot 189): load
      refine MonoR.step (Pv.eq (ps.v)) [(40, 188)] (by kernel_rfl) (fun w' hw' => ?_) ?_
      · rintro _ rfl
        refine ask_do rfl fun K hK => ?_
        have hp := (HBz.out.grown hw' (by simp)).prule
        go_simp
        exact hK _ _ rfl rfl (World.grownBy.refl _ none)
      -- op 42 (slot 190): buildSlice
      refine MonoR.step (Pv.sl (encU) TT [4]) [(40, 188)] (by kernel_rfl) (fun w' hw' => ?_) ?_
      · rintro _ rfl
        refine ask_do rfl fun K hK => ?_
        go_simp
        exact hK _ _ rfl (Sl.build [[.int .u64 4]] rfl ⟨⟨rfl, by decide⟩, trivial⟩ rfl (by decide)) (World.grownBy_alloc w' _ none)
      -- op 43 (slot 191): buildSlice
      refine MonoR.step (Pv.sl (encU) TT [1, 9]) [(40, 188)] (by kernel_rfl) (fun w' hw' => ?_) ?_
      · rintro _ rfl
        refine ask_do rfl fun K hK => ?_
        go_simp
        exact hK _ _ rfl (Sl.build [[.int .u64 1], [.int .u64 9]] rfl ⟨⟨rfl, by decide⟩, ⟨rfl, by decide⟩, trivial⟩ rfl (by decide)) (World.grownBy_alloc w' _ none)
      -- op 44 (slot 192): buildSlice
      refine MonoR.step (Pv.sl (encS encU) TT [[4], [1, 9]]) [(40, 188), (42, 190), (43, 191)] (by kernel_rfl) (fun w' hw' => ?_) ?_
      · rintro _ rfl
        intro x190 h190
        have h190 : Sl (encU) TT w' x190 [4] := h190
        obtain ⟨A190, c190, e190, k190, l190⟩ := h190.form
        have e190 : x190 = .slice A190 1 c190 := e190
        subst e190
        intro x191 h191
        have h191 : Sl (encU) TT w' x191 [1, 9] := h191
        obtain ⟨A191, c191, e191, k191, l191⟩ := h191.form
        have e191 : x191 = .slice A191 2 c191 := e191
        subst e191
        refine ask_do rfl fun K hK => ?_
        go_simp
        exact hK _ _ rfl (Sl.build [[.slice A190 1 c190], [.slice A191 2 c191]] rfl ⟨⟨_, rfl, h190⟩, ⟨_, rfl, h191⟩, trivial⟩ rfl (by decide)) (World.grownBy_alloc w' _ none)
      -- op 45 (slot 193): buildSlice
      refine MonoR.step (Pv.sl (encS (encS encU)) TT [[[4], [1, 9]]]) [(40, 188), (44, 192)] (by kernel_rfl) (fun w' hw' => ?_) ?_
      · rintro _ rfl
        intro x192 h192
        have h192 : Sl (encS encU) TT w' x192 [[4], [1, 9]] := h192
        obtain ⟨A192, c192, e192, k192, l192⟩ := h192.form
        have e192 : x192 = .slice A192 2 c192 := e192
        subst e192
        refine ask_do rfl fun K hK => ?_
        go_simp
        exact hK _ _ rfl (Sl.build [[.slice A192 2 c192]] rfl ⟨⟨_, rfl, h192⟩, trivial⟩ rfl (by decide)) (World.grownBy_alloc w' _ none)
      -- op 46 (slot 194): call
      refine MonoR.step (Pv.sl (encS encU) TT [[4, 9]]) [(40, 188), (41, 189), (45, 193)] (by kernel_rfl) (fun w' hw' => ?_) ?_
      · rintro _ rfl
        rintro _ rfl
        intro x193 h193
        have h193 : Sl (encS (encS encU)) TT w' x193 [[[4], [1, 9]]] := h193
        refine ask_do rfl fun K hK => ?_
        go_simp
        refine (rowComs_any ps _ [[[4], [1, 9]]] 1 TT w' h193 ⟨by decide, by decide⟩ (by decide) (by decide)).mono ?_
        rintro e w3 ⟨v3, rfl, h3, hg⟩
        rw [(show rowComsI ps [[[4], [1, 9]]] 1 = [[4, 9]] by decide +kernel)] at h3
        exact hK _ _ rfl (h3.more (fun _ _ _ => trivial)) hg
      -- op 47 (slot 195): buildSlice
      refine MonoR.step (Pv.sl (encU) TT [4, 9]) [(40, 188)] (by kernel_rfl) (fun w' hw' => ?_) ?_
      · rintro _ rfl
        refine ask_do rfl fun K hK => ?_
        go_simp
        exact hK _ _ rfl (Sl.build [[.int .u64 4], [.int .u64 9]] rfl ⟨⟨rfl, by decide⟩, ⟨rfl, by decide⟩, trivial⟩ rfl (by decide)) (World.grownBy_alloc w' _ none)
      -- op 48 (slot 196): buildSlice
      refine MonoR.step (Pv.sl (encS encU) TT [[4, 9]]) [(40, 188), (47, 195)] (by kernel_rfl) (fun w' hw' => ?_) ?_
      · rintro _ rfl
        intro x195 h195
        have h195 : Sl (encU) TT w' x195 [4, 9] := h195
        obtain ⟨A195, c195, e195, k195, l195⟩ := h195.form
        have e195 : x195 = .slice A195 2 c195 := e195
        subst e195
        refine ask_do rfl fun K hK => ?_
        go_simp
        exact hK _ _ rfl (Sl.build [[.slice A195 2 c195]] rfl ⟨⟨_, rfl, h195⟩, trivial⟩ rfl (by decide)) (World.grownBy_alloc w' _ none)
      -- op 49 (slot 197): call
      refine MonoR.step (Pv.eq (.bool true)) [(40, 188), (46, 194), (48, 196)] (by kernel_rfl) (fun w' hw' => ?_) ?_
      · rintro _ rfl
        intro x194 h194
        have h194 : Sl (encS encU) TT w' x194 [[4, 9]] := h194
        intro x196 h196
        have h196 : Sl (encS encU) TT w' x196 [[4, 9]] := h196
        refine ask_do rfl fun K hK => ?_
        go_simp
        refine (lists_eq _ _ [[4, 9]] TT TT w' h194 h196).mono ?_
        rintro e w3 ⟨rfl, m3, rfl⟩
        exact hK _ _ rfl rfl (grown_drewN' w' m3)
      -- op 50 (slot 198): pick
      refine MonoR.step (Pv.eq (.bool true)) [(40, 188), (49, 197)] (by kernel_rfl) (fun w' hw' => ?_) ?_
      · rintro _ rfl
        rintro _ rfl
        refine ask_do rfl fun K hK => ?_
        go_simp
        exact hK _ _ rfl rfl (World.grownBy.refl _ none)
      -- op 51 (slot 199): move
      refine MonoR.step (Pv.eq (.bool true)) [(50, 198)] (by kernel_rfl) (fun w' hw' => ?_) ?_
      · rintro _ rfl
        refine ask_do rfl fun K hK => ?_
        go_simp
        exact hK _ _ rfl rfl (World.grownBy.refl _ none)
      -- op 52 (slot 200): load
      refine MonoR.step (Pv.eq (ps.v)) [(51, 199)] (by kernel_rfl) (fun w' hw' => ?_) ?_
      · rintro _ rfl
        refine ask_do rfl fun K hK => ?_
        have hp := (HBz.out.grown hw' (by simp)).prule
        go_simp
        exact hK _ _ rfl rfl (World.grownBy.refl _ none)
      -- op 53 (slot 201): buildSlice
      refine MonoR.step (Pv.sl (encS encU) TT [[]]) [(51, 199)] (by kernel_rfl) (fun w' hw' => ?_) ?_
      · rintro _ rfl
        refine ask_do rfl fun K hK => ?_
        go_simp
        exact hK _ _ rfl (Sl.build [[.slice none 0 0]] rfl ⟨⟨_, rfl, Sl.nil _ TT w'⟩, trivial⟩ rfl (by decide)) (World.grownBy_alloc w' _ none)
      -- op 54 (slot 202): call
      refine MonoR.step (Pv.sl (encS encU) TT [[]]) [(51, 199), (52, 200), (53, 201)] (by kernel_rfl) (fun w' hw' => ?_) ?_
      · rintro _ rfl
        rintro _ rfl
        intro x201 h201
        have h201 : Sl (encS encU) TT w' x201 [[]] := h201
        refine ask_do rfl fun K hK => ?_
        go_simp
        refine (coms_any ps _ _ [[]] [] TT w' ps_ok h201 (Sl.nil _ TT w') (by decide) (by decide) (by decide) (by decide)).mono ?_
        rintro e w3 ⟨v3, rfl, h3, hg⟩
        rw [(show comsI ps [[]] [] = [[]] by decide +kernel)] at h3
        exact hK _ _ rfl (h3.more (fun _ _ _ => trivial)) hg
      -- op 55 (slot 203): buildSlice
      refine MonoR.step (Pv.sl (encS encU) TT [[]]) [(51, 199)] (by kernel_rfl) (fun w' hw' => ?_) ?_
      · rintro _ rfl
        refine ask_do rfl fun K hK => ?_
        go_simp
        exact hK _ _ rfl (Sl.build [[.slice none 0 0]] rfl ⟨⟨_, rfl, Sl.nil _ TT w'⟩, trivial⟩ rfl (by decide)) (World.grownBy_alloc w' _ none)
      -- op 56 (slot 204): call
      refine MonoR.step (Pv.eq (.bool true)) [(51, 199), (54, 202), (55, 203)] (by kernel_rfl) (fun w' hw' => ?_) ?_
      · rintro _ rfl
        intro x202 h202
        have h202 : Sl (encS encU) TT w' x202 [[]] := h202
        intro x203 h203
        have h203 : Sl (encS encU) TT w' x203 [[]] := h203
        refine ask_do rfl fun K hK => ?_
        go_simp
        refine (lists_eq _ _ [[]] TT TT w' h202 h203).mono ?_
        rintro e w3 ⟨rfl, m3, rfl⟩
        exact hK _ _ rfl rfl (grown_drewN' w' m3)
      -- op 57 (slot 205): pick
      refine MonoR.step (Pv.eq (.bool true)) [(51, 199), (56, 204)] (by kernel_rfl) (fun w' hw' => ?_) ?_
      · rintro _ rfl
        rintro _ rfl
        refine ask_do rfl fun K hK => ?_
        go_simp
        exact hK _ _ rfl rfl (World.grownBy.refl _ none)
      -- op 58 (slot 0): assign
      refine MonoR.step (Pv.eq (.bool true)) [(57, 205)] (by kernel_rfl) (fun w' hw' => ?_) ?_
      · rintro _ rfl
        refine ask_do rfl fun K hK => ?_
        go_simp
        exact hK _ _ rfl rfl (World.grownBy.refl _ none)
      intro w12 hww12
      intro _ _
      intro _ _
      intro _ _
      intro _ _
      intro _ _
      intro _ _
      intro _ _
      intro _ _
      intro _ _
      intro _ _
      intro _ _
      intro _ _
      intro _ _
      intro _ _
      intro _ _
      intro _ _
      intro _ _
      intro _ _
      intro _ _
      intro _ _
      intro _ _
      intro _ _
      intro _ _
      intro _ _
      intro _ _
      intro _ _
      intro _ _
      intro _ _
      intro _ _
      intro _ _
      intro _ _
      intro _ _
      intro _ _
      intro _ _
      intro _ _
      intro _ _
      intro _ _
      intro _ _
      intro _ _
      intro _ _
      intro _ _
      intro _ _
      intro _ _
      intro _ _
      intro _ _
      intro _ _
      intro _ _
      intro _ _
      intro _ _
      intro _ _
      intro _ _
      intro _ _
      intro _ _
      intro _ _
      intro _ _
      intro _ _
      intro _ _
      intro _ _
      rintro _ rfl
      have HBzd : Hid (Bk w12 w2.heap.size 25 ps.cells) := Lib.hid (Bk.grown HBz.out hww12 (by simp))
      have HGzd : Hid (w.grownBy w12 none) := Lib.hid ((HGz.out).trans hww12)
      have HBnd : Hid (Bk w12 wz.heap.size 25 pn.cells) := Lib.hid (Bk.grown HBn.out hww12 (by simp))
      clear HBz
      have HBz := HBzd
      clear HBzd
      clear HGz
      have HGz := HGzd
      clear HGzd
      clear HBn
      have HBn := HBnd
      clear HBnd
      clear hww12
      refine wpList_nil ?_
      simp only [Act.put, List.setIfInBounds_toArray, List.set_cons_zero, List.set_cons_succ]
      go_wp2
      go_ret
      exact ⟨rfl, HGz.out⟩
end Go.Proofs.Ytmbbahlenanpfaa
