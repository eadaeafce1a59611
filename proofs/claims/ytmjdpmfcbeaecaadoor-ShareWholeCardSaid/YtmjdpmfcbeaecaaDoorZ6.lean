/- consistorylaw20.ShareWhole: true for every input: the row's statement, and its tied card, out of the law's contract. -/
import Derived.Test.YtmjdpmfcbeaecaaDoorZ5
import Derived.ProofKit
import Derived.Test.YtmjdpmfcbeaecaaDoorCards
import Derived.Test.YtmjdpmfcbeaecaaDoorTie
import Derived.WalkKit
import Derived.OpenShut
import Derived.ChangeOld
import Derived.Below
import Derived.Deep.DeepHandedRow
import Derived.Lib.LaidTab
import Derived.Stop.LaidErr
namespace Go.Proofs.YtmjdpmfcbeaecaaDoor
open Go Go.RowKit

set_option maxRecDepth 100000 in
set_option maxHeartbeats 4000000 in
theorem works20_any (w : World) : Calls Tryd.prog 6 #[] w fun e w' => e = .returned (.bool true) ∧ w.grownBy w' none := by
  go_enter Tryd.func6, Tryd.ntmps6
  go_wp2_with fail
  refine (small20_any w).mono ?_
  rintro e w2 ⟨rfl, hg⟩
  have HB : Hid (Bk (w2.alloc (.cells ps.cells 24)) w2.heap.size 24 ps.cells) := Lib.hid (Bk.new w2 _ _)
  have HG : Hid (w.grownBy (w2.alloc (.cells ps.cells 24)) none) := Lib.hid (hg.trans (World.grownBy_alloc _ _ none))
  clear hg
  go_upto_region 2 with (fail)
  obtain ⟨w3, hw3⟩ : ∃ w3, w2.alloc (.cells ps.cells 24) = w3 := ⟨_, rfl⟩
  rw [hw3] at HB HG ⊢
  clear hw3
  refine wp_region_seqm 8 (by kernel_rfl) ?_
  -- op 0 (slot 14): build
  refine MonoR.step (Pv.eq (.agg #[.int .u64 6, .int .u64 5])) [] (by kernel_rfl) (fun w' hw' => ?_) ?_
  · refine ask_do rfl fun K hK => ?_
    go_simp
    exact hK _ _ rfl rfl (World.grownBy.refl _ none)
  -- op 1 (slot 15): build
  refine MonoR.step (Pv.eq (.agg #[.int .u64 0, .int .u64 0])) [] (by kernel_rfl) (fun w' hw' => ?_) ?_
  · refine ask_do rfl fun K hK => ?_
    go_simp
    exact hK _ _ rfl rfl (World.grownBy.refl _ none)
  -- op 2 (slot 16): buildSlice
  refine MonoR.step (Pv.sl (encP) TT [(6, 5), (0, 0)]) [(0, 14), (1, 15)] (by kernel_rfl) (fun w' hw' => ?_) ?_
  · rintro _ rfl
    rintro _ rfl
    refine ask_do rfl fun K hK => ?_
    go_simp
    exact hK _ _ rfl (Sl.build [[.int .u64 6, .int .u64 5], [.int .u64 0, .int .u64 0]] rfl ⟨⟨rfl, by decide, by decide⟩, ⟨rfl, by decide, by decide⟩, trivial⟩ rfl (by decide)) (World.grownBy_alloc w' _ none)
  -- op 3 (slot 17): build
  refine MonoR.step (Pv.eq (.agg #[.int .u64 7, .int .u64 8])) [] (by kernel_rfl) (fun w' hw' => ?_) ?_
  · refine ask_do rfl fun K hK => ?_
    go_simp
    exact hK _ _ rfl rfl (World.grownBy.refl _ none)
  -- op 4 (slot 18): build
  refine MonoR.step (Pv.eq (.agg #[.int .u64 4, .int .u64 6])) [] (by kernel_rfl) (fun w' hw' => ?_) ?_
  · refine ask_do rfl fun K hK => ?_
    go_simp
    exact hK _ _ rfl rfl (World.grownBy.refl _ none)
  -- op 5 (slot 19): buildSlice
  refine MonoR.step (Pv.sl (encP) TT [(7, 8), (4, 6)]) [(3, 17), (4, 18)] (by kernel_rfl) (fun w' hw' => ?_) ?_
  · rintro _ rfl
    rintro _ rfl
    refine ask_do rfl fun K hK => ?_
    go_simp
    exact hK _ _ rfl (Sl.build [[.int .u64 7, .int .u64 8], [.int .u64 4, .int .u64 6]] rfl ⟨⟨rfl, by decide, by decide⟩, ⟨rfl, by decide, by decide⟩, trivial⟩ rfl (by decide)) (World.grownBy_alloc w' _ none)
  -- op 6 (slot 20): buildSlice
  refine MonoR.step (Pv.sl (encS encP) TT [[(6, 5), (0, 0)], [(7, 8), (4, 6)]]) [(2, 16), (5, 19)] (by kernel_rfl) (fun w' hw' => ?_) ?_
  · intro x16 h16
    have h16 : Sl (encP) TT w' x16 [(6, 5), (0, 0)] := h16
    obtain ⟨A16, c16, e16, k16, l16⟩ := h16.form
    have e16 : x16 = .slice A16 2 c16 := e16
    subst e16
    intro x19 h19
    have h19 : Sl (encP) TT w' x19 [(7, 8), (4, 6)] := h19
    obtain ⟨A19, c19, e19, k19, l19⟩ := h19.form
    have e19 : x19 = .slice A19 2 c19 := e19
    subst e19
    refine ask_do rfl fun K hK => ?_
    go_simp
    exact hK _ _ rfl (Sl.build [[.slice A16 2 c16], [.slice A19 2 c19]] rfl ⟨⟨_, rfl, h16⟩, ⟨_, rfl, h19⟩, trivial⟩ rfl (by decide)) (World.grownBy_alloc w' _ none)
  -- op 7 (slot 2): assign
  refine MonoR.step (Pv.sl (encS encP) TT [[(6, 5), (0, 0)], [(7, 8), (4, 6)]]) [(6, 20)] (by kernel_rfl) (fun w' hw' => ?_) ?_
  · intro x20 h20
    have h20 : Sl (encS encP) TT w' x20 [[(6, 5), (0, 0)], [(7, 8), (4, 6)]] := h20
    refine ask_do rfl fun K hK => ?_
    go_simp
    exact hK _ _ rfl h20 (World.grownBy.refl _ none)
  intro w4 hww4
  intro _ _
  intro _ _
  intro _ _
  intro _ _
  intro _ _
  intro _ _
  intro _ _
  intro v2 h2'
  simp only [Act.put, List.setIfInBounds_toArray, List.set_cons_zero, List.set_cons_succ]
  have HBd : Hid (Bk w4 w2.heap.size 24 ps.cells) := Lib.hid (Bk.grown HB.out hww4 (by simp))
  have HGd : Hid (w.grownBy w4 none) := Lib.hid ((HG.out).trans hww4)
  clear HB
  have HB := HBd
  clear HBd
  clear HG
  have HG := HGd
  clear HGd
  have HS2 : Hid (Sl (encS encP) TT w4 v2 [[(6, 5), (0, 0)], [(7, 8), (4, 6)]]) := Lib.hid h2'
  clear h2'
  clear hww4
  refine wpList_nil ?_
  go_upto_region 3 with (fail)
  refine wp_region_seqm 9 (by kernel_rfl) ?_
  -- op 0 (slot 22): load
  refine MonoR.step (Pv.eq (ps.v)) [] (by kernel_rfl) (fun w' hw' => ?_) ?_
  · refine ask_do rfl fun K hK => ?_
    have hp := (HB.out.grown hw' (by simp)).prule
    go_simp
    exact hK _ _ rfl rfl (World.grownBy.refl _ none)
  -- op 1 (slot 23): buildSlice
  refine MonoR.step (Pv.sl (encI) TT [1, 2]) [] (by kernel_rfl) (fun w' hw' => ?_) ?_
  · refine ask_do rfl fun K hK => ?_
    go_simp
    exact hK _ _ rfl (Sl.build [[.int .i64 1], [.int .i64 2]] rfl ⟨⟨rfl, ⟨by decide, by decide⟩⟩, ⟨rfl, ⟨by decide, by decide⟩⟩, trivial⟩ rfl (by decide)) (World.grownBy_alloc w' _ none)
  -- op 2 (slot 24): move
  refine MonoR.step (Pv.sl (encS encP) TT [[(6, 5), (0, 0)], [(7, 8), (4, 6)]]) [] (by kernel_rfl) (fun w' hw' => ?_) ?_
  · refine ask_do rfl fun K hK => ?_
    go_simp
    exact hK _ _ rfl (HS2.out.kept hw') (World.grownBy.refl _ none)
  -- op 3 (slot 25): call
  refine MonoR.step (Pv.tup (encP) [(5, 2), (7, 5)] 0) [(0, 22), (1, 23), (2, 24)] (by kernel_rfl) (fun w' hw' => ?_) ?_
  · rintro _ rfl
    intro x23 h23
    have h23 : Sl (encI) TT w' x23 [1, 2] := h23
    intro x24 h24
    have h24 : Sl (encS encP) TT w' x24 [[(6, 5), (0, 0)], [(7, 8), (4, 6)]] := h24
    refine ask_do rfl fun K hK => ?_
    go_simp
    refine (sum_any ps _ [1, 2] _ [[(6, 5), (0, 0)], [(7, 8), (4, 6)]] TT TT w' ps_ok h23 h24 (by decide) (by decide)).mono ?_
    rintro e w3 ⟨v3, he, h3, hg⟩
    rw [(show sumE ps [1, 2] [[(6, 5), (0, 0)], [(7, 8), (4, 6)]] = 0 by rw [sumE_eq]; decide +kernel)] at he
    rw [(show sumL ps [1, 2] [[(6, 5), (0, 0)], [(7, 8), (4, 6)]] = [(5, 2), (7, 5)] by rw [sumL_eq]; decide +kernel)] at h3
    subst he
    exact hK _ _ rfl ⟨_, rfl, h3.more (fun _ _ _ => trivial)⟩ hg
  -- op 4 (slot 21): move
  refine MonoR.step (Pv.tup (encP) [(5, 2), (7, 5)] 0) [(3, 25)] (by kernel_rfl) (fun w' hw' => ?_) ?_
  · intro x25 q25
    obtain ⟨u25, e25, h25⟩ : ∃ u, x25 = .tuple #[u, .int .i64 0] ∧ Sl (encP) TT w' u [(5, 2), (7, 5)] := q25
    subst e25
    refine ask_do rfl fun K hK => ?_
    go_simp
    exact hK _ _ rfl ⟨_, rfl, h25⟩ (World.grownBy.refl _ none)
  -- op 5 (slot 26): extract
  refine MonoR.step (Pv.sl (encP) TT [(5, 2), (7, 5)]) [(4, 21)] (by kernel_rfl) (fun w' hw' => ?_) ?_
  · intro x21 q21
    obtain ⟨u21, e21, h21⟩ : ∃ u, x21 = .tuple #[u, .int .i64 0] ∧ Sl (encP) TT w' u [(5, 2), (7, 5)] := q21
    subst e21
    refine ask_do rfl fun K hK => ?_
    go_simp
    exact hK _ _ rfl h21 (World.grownBy.refl _ none)
  -- op 6 (slot 27): extract
  refine MonoR.step (Pv.eq (.int .i64 0)) [(4, 21)] (by kernel_rfl) (fun w' hw' => ?_) ?_
  · intro x21 q21
    obtain ⟨u21, e21, h21⟩ : ∃ u, x21 = .tuple #[u, .int .i64 0] ∧ Sl (encP) TT w' u [(5, 2), (7, 5)] := q21
    subst e21
    refine ask_do rfl fun K hK => ?_
    go_simp
    exact hK _ _ rfl rfl (World.grownBy.refl _ none)
  -- op 7 (slot 3): assign
  refine MonoR.step (Pv.sl (encP) TT [(5, 2), (7, 5)]) [(5, 26)] (by kernel_rfl) (fun w' hw' => ?_) ?_
  · intro x26 h26
    have h26 : Sl (encP) TT w' x26 [(5, 2), (7, 5)] := h26
    refine ask_do rfl fun K hK => ?_
    go_simp
    exact hK _ _ rfl h26 (World.grownBy.refl _ none)
  -- op 8 (slot 4): assign
  refine MonoR.step (Pv.eq (.int .i64 0)) [(6, 27)] (by kernel_rfl) (fun w' hw' => ?_) ?_
  · rintro _ rfl
    refine ask_do rfl fun K hK => ?_
    go_simp
    exact hK _ _ rfl rfl (World.grownBy.refl _ none)
  intro w5 hww5
  intro _ _
  intro _ _
  intro _ _
  intro _ _
  intro _ _
  intro _ _
  intro _ _
  intro v3 h3'
  rintro _ rfl
  simp only [Act.put, List.setIfInBounds_toArray, List.set_cons_zero, List.set_cons_succ]
  have HBd : Hid (Bk w5 w2.heap.size 24 ps.cells) := Lib.hid (Bk.grown HB.out hww5 (by simp))
  have HGd : Hid (w.grownBy w5 none) := Lib.hid ((HG.out).trans hww5)
  have HS2d : Hid (Sl (encS encP) TT w5 v2 [[(6, 5), (0, 0)], [(7, 8), (4, 6)]]) := Lib.hid (Sl.kept HS2.out hww5)
  clear HB
  have HB := HBd
  clear HBd
  clear HG
  have HG := HGd
  clear HGd
  clear HS2
  have HS2 := HS2d
  clear HS2d
  have HS3 : Hid (Sl (encP) TT w5 v3 [(5, 2), (7, 5)]) := Lib.hid h3'
  clear h3'
  clear hww5
  refine wpList_nil ?_
  go_upto_region 4 with (fail)
  refine wp_region_seqm 9 (by kernel_rfl) ?_
  -- op 0 (slot 29): load
  refine MonoR.step (Pv.eq (ps.v)) [] (by kernel_rfl) (fun w' hw' => ?_) ?_
  · refine ask_do rfl fun K hK => ?_
    have hp := (HB.out.grown hw' (by simp)).prule
    go_simp
    exact hK _ _ rfl rfl (World.grownBy.refl _ none)
  -- op 1 (slot 30): buildSlice
  refine MonoR.step (Pv.sl (encI) TT [1, 1]) [] (by kernel_rfl) (fun w' hw' => ?_) ?_
  · refine ask_do rfl fun K hK => ?_
    go_simp
    exact hK _ _ rfl (Sl.build [[.int .i64 1], [.int .i64 1]] rfl ⟨⟨rfl, ⟨by decide, by decide⟩⟩, ⟨rfl, ⟨by decide, by decide⟩⟩, trivial⟩ rfl (by decide)) (World.grownBy_alloc w' _ none)
  -- op 2 (slot 31): move
  refine MonoR.step (Pv.sl (encS encP) TT [[(6, 5), (0, 0)], [(7, 8), (4, 6)]]) [] (by kernel_rfl) (fun w' hw' => ?_) ?_
  · refine ask_do rfl fun K hK => ?_
    go_simp
    exact hK _ _ rfl (HS2.out.kept hw') (World.grownBy.refl _ none)
  -- op 3 (slot 32): call
  refine MonoR.step (Pv.tup (encP) [] 6) [(0, 29), (1, 30), (2, 31)] (by kernel_rfl) (fun w' hw' => ?_) ?_
  · rintro _ rfl
    intro x30 h30
    have h30 : Sl (encI) TT w' x30 [1, 1] := h30
    intro x31 h31
    have h31 : Sl (encS encP) TT w' x31 [[(6, 5), (0, 0)], [(7, 8), (4, 6)]] := h31
    refine ask_do rfl fun K hK => ?_
    go_simp
    refine (sum_any ps _ [1, 1] _ [[(6, 5), (0, 0)], [(7, 8), (4, 6)]] TT TT w' ps_ok h30 h31 (by decide) (by decide)).mono ?_
    rintro e w3 ⟨v3, he, h3, hg⟩
    rw [(show sumE ps [1, 1] [[(6, 5), (0, 0)], [(7, 8), (4, 6)]] = 6 by rw [sumE_eq]; decide +kernel)] at he
    rw [(show sumL ps [1, 1] [[(6, 5), (0, 0)], [(7, 8), (4, 6)]] = [] by rw [sumL_eq]; decide +kernel)] at h3
    subst he
    exact hK _ _ rfl ⟨_, rfl, h3.more (fun _ _ _ => trivial)⟩ hg
  -- op 4 (slot 28): move
  refine MonoR.step (Pv.tup (encP) [] 6) [(3, 32)] (by kernel_rfl) (fun w' hw' => ?_) ?_
  · intro x32 q32
    obtain ⟨u32, e32, h32⟩ : ∃ u, x32 = .tuple #[u, .int .i64 6] ∧ Sl (encP) TT w' u [] := q32
    subst e32
    refine ask_do rfl fun K hK => ?_
    go_simp
    exact hK _ _ rfl ⟨_, rfl, h32⟩ (World.grownBy.refl _ none)
  -- op 5 (slot 33): extract
  refine MonoR.step (Pv.sl (encP) TT []) [(4, 28)] (by kernel_rfl) (fun w' hw' => ?_) ?_
  · intro x28 q28
    obtain ⟨u28, e28, h28⟩ : ∃ u, x28 = .tuple #[u, .int .i64 6] ∧ Sl (encP) TT w' u [] := q28
    subst e28
    refine ask_do rfl fun K hK => ?_
    go_simp
    exact hK _ _ rfl h28 (World.grownBy.refl _ none)
  -- op 6 (slot 34): extract
  refine MonoR.step (Pv.eq (.int .i64 6)) [(4, 28)] (by kernel_rfl) (fun w' hw' => ?_) ?_
  · intro x28 q28
    obtain ⟨u28, e28, h28⟩ : ∃ u, x28 = .tuple #[u, .int .i64 6] ∧ Sl (encP) TT w' u [] := q28
    subst e28
    refine ask_do rfl fun K hK => ?_
    go_simp
    exact hK _ _ rfl rfl (World.grownBy.refl _ none)
  -- op 7 (slot 5): assign
  refine MonoR.step (Pv.sl (encP) TT []) [(5, 33)] (by kernel_rfl) (fun w' hw' => ?_) ?_
  · intro x33 h33
    have h33 : Sl (encP) TT w' x33 [] := h33
    refine ask_do rfl fun K hK => ?_
    go_simp
    exact hK _ _ rfl h33 (World.grownBy.refl _ none)
  -- op 8 (slot 6): assign
  refine MonoR.step (Pv.eq (.int .i64 6)) [(6, 34)] (by kernel_rfl) (fun w' hw' => ?_) ?_
  · rintro _ rfl
    refine ask_do rfl fun K hK => ?_
    go_simp
    exact hK _ _ rfl rfl (World.grownBy.refl _ none)
  intro w6 hww6
  intro _ _
  intro _ _
  intro _ _
  intro _ _
  intro _ _
  intro _ _
  intro _ _
  intro _ _
  rintro _ rfl
  simp only [Act.put, List.setIfInBounds_toArray, List.set_cons_zero, List.set_cons_succ]
  have HBd : Hid (Bk w6 w2.heap.size 24 ps.cells) := Lib.hid (Bk.grown HB.out hww6 (by simp))
  have HGd : Hid (w.grownBy w6 none) := Lib.hid ((HG.out).trans hww6)
  have HS2d : Hid (Sl (encS encP) TT w6 v2 [[(6, 5), (0, 0)], [(7, 8), (4, 6)]]) := Lib.hid (Sl.kept HS2.out hww6)
  have HS3d : Hid (Sl (encP) TT w6 v3 [(5, 2), (7, 5)]) := Lib.hid (Sl.kept HS3.out hww6)
  clear HB
  have HB := HBd
  clear HBd
  clear HG
  have HG := HGd
  clear HGd
  clear HS2
  have HS2 := HS2d
  clear HS2d
  clear HS3
  have HS3 := HS3d
  clear HS3d
  clear hww6
  refine wpList_nil ?_
  go_upto_region 5 with (fail)
  refine wp_region_seqm 9 (by kernel_rfl) ?_
  -- op 0 (slot 36): load
  refine MonoR.step (Pv.eq (ps.v)) [] (by kernel_rfl) (fun w' hw' => ?_) ?_
  · refine ask_do rfl fun K hK => ?_
    have hp := (HB.out.grown hw' (by simp)).prule
    go_simp
    exact hK _ _ rfl rfl (World.grownBy.refl _ none)
  -- op 1 (slot 37): buildSlice
  refine MonoR.step (Pv.sl (encI) TT [1, 8]) [] (by kernel_rfl) (fun w' hw' => ?_) ?_
  · refine ask_do rfl fun K hK => ?_
    go_simp
    exact hK _ _ rfl (Sl.build [[.int .i64 1], [.int .i64 8]] rfl ⟨⟨rfl, ⟨by decide, by decide⟩⟩, ⟨rfl, ⟨by decide, by decide⟩⟩, trivial⟩ rfl (by decide)) (World.grownBy_alloc w' _ none)
  -- op 2 (slot 38): move
  refine MonoR.step (Pv.sl (encS encP) TT [[(6, 5), (0, 0)], [(7, 8), (4, 6)]]) [] (by kernel_rfl) (fun w' hw' => ?_) ?_
  · refine ask_do rfl fun K hK => ?_
    go_simp
    exact hK _ _ rfl (HS2.out.kept hw') (World.grownBy.refl _ none)
  -- op 3 (slot 39): call
  refine MonoR.step (Pv.tup (encP) [] 1) [(0, 36), (1, 37), (2, 38)] (by kernel_rfl) (fun w' hw' => ?_) ?_
  · rintro _ rfl
    intro x37 h37
    have h37 : Sl (encI) TT w' x37 [1, 8] := h37
    intro x38 h38
    have h38 : Sl (encS encP) TT w' x38 [[(6, 5), (0, 0)], [(7, 8), (4, 6)]] := h38
    refine ask_do rfl fun K hK => ?_
    go_simp
    refine (sum_any ps _ [1, 8] _ [[(6, 5), (0, 0)], [(7, 8), (4, 6)]] TT TT w' ps_ok h37 h38 (by decide) (by decide)).mono ?_
    rintro e w3 ⟨v3, he, h3, hg⟩
    rw [(show sumE ps [1, 8] [[(6, 5), (0, 0)], [(7, 8), (4, 6)]] = 1 by rw [sumE_eq]; decide +kernel)] at he
    rw [(show sumL ps [1, 8] [[(6, 5), (0, 0)], [(7, 8), (4, 6)]] = [] by rw [sumL_eq]; decide +kernel)] at h3
    subst he
    exact hK _ _ rfl ⟨_, rfl, h3.more (fun _ _ _ => trivial)⟩ hg
  -- op 4 (slot 35): move
  refine MonoR.step (Pv.tup (encP) [] 1) [(3, 39)] (by kernel_rfl) (fun w' hw' => ?_) ?_
  · intro x39 q39
    obtain ⟨u39, e39, h39⟩ : ∃ u, x39 = .tuple #[u, .int .i64 1] ∧ Sl (encP) TT w' u [] := q39
    subst e39
    refine ask_do rfl fun K hK => ?_
    go_simp
    exact hK _ _ rfl ⟨_, rfl, h39⟩ (World.grownBy.refl _ none)
  -- op 5 (slot 40): extract
  refine MonoR.step (Pv.sl (encP) TT []) [(4, 35)] (by kernel_rfl) (fun w' hw' => ?_) ?_
  · intro x35 q35
    obtain ⟨u35, e35, h35⟩ : ∃ u, x35 = .tuple #[u, .int .i64 1] ∧ Sl (encP) TT w' u [] := q35
    subst e35
    refine ask_do rfl fun K hK => ?_
    go_simp
    exact hK _ _ rfl h35 (World.grownBy.refl _ none)
  -- op 6 (slot 41): extract
  refine MonoR.step (Pv.eq (.int .i64 1)) [(4, 35)] (by kernel_rfl) (fun w' hw' => ?_) ?_
  · intro x35 q35
    obtain ⟨u35, e35, h35⟩ : ∃ u, x35 = .tuple #[u, .int .i64 1] ∧ Sl (encP) TT w' u [] := q35
    subst e35
    refine ask_do rfl fun K hK => ?_
    go_simp
    exact hK _ _ rfl rfl (World.grownBy.refl _ none)
  -- op 7 (slot 7): assign
  refine MonoR.step (Pv.sl (encP) TT []) [(5, 40)] (by kernel_rfl) (fun w' hw' => ?_) ?_
  · intro x40 h40
    have h40 : Sl (encP) TT w' x40 [] := h40
    refine ask_do rfl fun K hK => ?_
    go_simp
    exact hK _ _ rfl h40 (World.grownBy.refl _ none)
  -- op 8 (slot 8): assign
  refine MonoR.step (Pv.eq (.int .i64 1)) [(6, 41)] (by kernel_rfl) (fun w' hw' => ?_) ?_
  · rintro _ rfl
    refine ask_do rfl fun K hK => ?_
    go_simp
    exact hK _ _ rfl rfl (World.grownBy.refl _ none)
  intro w7 hww7
  intro _ _
  intro _ _
  intro _ _
  intro _ _
  intro _ _
  intro _ _
  intro _ _
  intro _ _
  rintro _ rfl
  simp only [Act.put, List.setIfInBounds_toArray, List.set_cons_zero, List.set_cons_succ]
  have HBd : Hid (Bk w7 w2.heap.size 24 ps.cells) := Lib.hid (Bk.grown HB.out hww7 (by simp))
  have HGd : Hid (w.grownBy w7 none) := Lib.hid ((HG.out).trans hww7)
  have HS2d : Hid (Sl (encS encP) TT w7 v2 [[(6, 5), (0, 0)], [(7, 8), (4, 6)]]) := Lib.hid (Sl.kept HS2.out hww7)
  have HS3d : Hid (Sl (encP) TT w7 v3 [(5, 2), (7, 5)]) := Lib.hid (Sl.kept HS3.out hww7)
  clear HB
  have HB := HBd
  clear HBd
  clear HG
  have HG := HGd
  clear HGd
  clear HS2
  have HS2 := HS2d
  clear HS2d
  clear HS3
  have HS3 := HS3d
  clear HS3d
  clear hww7
  refine wpList_nil ?_
  clear HS2
  go_upto_region 6 with (fail)
  refine wp_region_seqm 6 (by kernel_rfl) ?_
  -- op 0 (slot 43): load
  refine MonoR.step (Pv.eq (ps.v)) [] (by kernel_rfl) (fun w' hw' => ?_) ?_
  · refine ask_do rfl fun K hK => ?_
    have hp := (HB.out.grown hw' (by simp)).prule
    go_simp
    exact hK _ _ rfl rfl (World.grownBy.refl _ none)
  -- op 1 (slot 44): buildSlice
  refine MonoR.step (Pv.sl (encU) TT [1, 10]) [] (by kernel_rfl) (fun w' hw' => ?_) ?_
  · refine ask_do rfl fun K hK => ?_
    go_simp
    exact hK _ _ rfl (Sl.build [[.int .u64 1], [.int .u64 10]] rfl ⟨⟨rfl, ⟨by decide, by decide⟩⟩, ⟨rfl, ⟨by decide, by decide⟩⟩, trivial⟩ rfl (by decide)) (World.grownBy_alloc w' _ none)
  -- op 2 (slot 45): call
  refine MonoR.step (Pv.mtup [[1]] [(-1)] 0) [(0, 43), (1, 44)] (by kernel_rfl) (fun w' hw' => ?_) ?_
  · rintro _ rfl
    intro x44 h44
    have h44 : Sl (encU) TT w' x44 [1, 10] := h44
    refine ask_do rfl fun K hK => ?_
    go_simp
    refine (smodel_any ps _ [1, 10] TT w' ps_ok h44 (by decide)).mono ?_
    rintro e w3 ⟨a3, b3, he, h3, k3, _, hg⟩
    rw [(show modelE ps [1, 10] = 0 by decide +kernel)] at he
    rw [(show modelW ps [1, 10] = [[1]] by decide +kernel)] at h3
    rw [(show modelB ps [1, 10] = [(-1)] by decide +kernel)] at k3
    subst he
    exact hK _ _ rfl ⟨_, _, rfl, h3.plain.more (fun _ _ _ => trivial), k3.more (fun _ _ _ => trivial)⟩ hg
  -- op 3 (slot 42): move
  refine MonoR.step (Pv.mtup [[1]] [(-1)] 0) [(2, 45)] (by kernel_rfl) (fun w' hw' => ?_) ?_
  · intro x45 q45
    obtain ⟨a45, b45, e45, h45, k45⟩ : ∃ a b, x45 = .tuple #[.agg #[a, b], .int .i64 0] ∧ Sl (encS encI) TT w' a [[1]] ∧ Sl encI TT w' b [(-1)] := q45
    subst e45
    refine ask_do rfl fun K hK => ?_
    go_simp
    exact hK _ _ rfl ⟨_, _, rfl, h45, k45⟩ (World.grownBy.refl _ none)
  -- op 4 (slot 46): extract
  refine MonoR.step (Pv.model [[1]] [(-1)]) [(3, 42)] (by kernel_rfl) (fun w' hw' => ?_) ?_
  · intro x42 q42
    obtain ⟨a42, b42, e42, h42, k42⟩ : ∃ a b, x42 = .tuple #[.agg #[a, b], .int .i64 0] ∧ Sl (encS encI) TT w' a [[1]] ∧ Sl encI TT w' b [(-1)] := q42
    subst e42
    refine ask_do rfl fun K hK => ?_
    go_simp
    exact hK _ _ rfl ⟨_, _, rfl, h42, k42⟩ (World.grownBy.refl _ none)
  -- op 5 (slot 47): extract
  refine MonoR.step (Pv.eq (.int .i64 0)) [(3, 42)] (by kernel_rfl) (fun w' hw' => ?_) ?_
  · intro x42 q42
    obtain ⟨a42, b42, e42, h42, k42⟩ : ∃ a b, x42 = .tuple #[.agg #[a, b], .int .i64 0] ∧ Sl (encS encI) TT w' a [[1]] ∧ Sl encI TT w' b [(-1)] := q42
    subst e42
    refine ask_do rfl fun K hK => ?_
    go_simp
    exact hK _ _ rfl rfl (World.grownBy.refl _ none)
  intro w8 hww8
  intro _ _
  intro _ _
  intro _ _
  intro _ _
  intro v46 h46'
  rintro _ rfl
  simp only [Act.put, List.setIfInBounds_toArray, List.set_cons_zero, List.set_cons_succ]
  have HBd : Hid (Bk w8 w2.heap.size 24 ps.cells) := Lib.hid (Bk.grown HB.out hww8 (by simp))
  have HGd : Hid (w.grownBy w8 none) := Lib.hid ((HG.out).trans hww8)
  have HS3d : Hid (Sl (encP) TT w8 v3 [(5, 2), (7, 5)]) := Lib.hid (Sl.kept HS3.out hww8)
  clear HB
  have HB := HBd
  clear HBd
  clear HG
  have HG := HGd
  clear HGd
  clear HS3
  have HS3 := HS3d
  clear HS3d
  obtain ⟨a46, b46, e46, ha46, hb46⟩ := h46'
  subst e46
  have HA46 : Hid (Sl (encS encI) TT w8 a46 [[1]]) := Lib.hid ha46
  have HBB46 : Hid (Sl encI TT w8 b46 [(-1)]) := Lib.hid hb46
  clear ha46 hb46
  clear hww8
  show wpList Tryd.prog _ _ _ _ w8
  obtain ⟨A46, n46, c46, rfl⟩ := HA46.out.shape
  obtain ⟨D46, m46, d46, rfl⟩ := HBB46.out.shape
  obtain ⟨w9, hww9⟩ : ∃ x, w8.alloc (.cells #[.slice A46 n46 c46, .slice D46 m46 d46] 59) = x := ⟨_, rfl⟩
  have HM9 : Hid (Bk w9 w8.heap.size 59 #[.slice A46 n46 c46, .slice D46 m46 d46]) := Lib.hid (by rw [← hww9]; exact Bk.new _ _ _)
  have HMG9 : Hid (w8.grownBy w9 none) := Lib.hid (by rw [← hww9]; exact World.grownBy_alloc _ _ none)
  have HBd : Hid (Bk w9 w2.heap.size 24 ps.cells) := Lib.hid (Bk.grown HB.out HMG9.out (by simp))
  have HGd : Hid (w.grownBy w9 none) := Lib.hid ((HG.out).trans HMG9.out)
  have HS3d : Hid (Sl (encP) TT w9 v3 [(5, 2), (7, 5)]) := Lib.hid (Sl.kept HS3.out HMG9.out)
  have HA46d : Hid (Sl (encS encI) TT w9 (.slice A46 n46 c46) [[1]]) := Lib.hid (Sl.kept HA46.out HMG9.out)
  have HBB46d : Hid (Sl encI TT w9 (.slice D46 m46 d46) [(-1)]) := Lib.hid (Sl.kept HBB46.out HMG9.out)
  clear HB
  have HB := HBd
  clear HBd
  clear HG
  have HG := HGd
  clear HGd
  clear HS3
  have HS3 := HS3d
  clear HS3d
  clear HA46
  have HA46 := HA46d
  clear HA46d
  clear HBB46
  have HBB46 := HBB46d
  clear HBB46d
  go_upto_region 7 with (fail)
  try rw [hww9]
  clear hww9
  refine wp_region_seqm 6 (by kernel_rfl) ?_
  -- op 0 (slot 49): load
  refine MonoR.step (Pv.eq (ps.v)) [] (by kernel_rfl) (fun w' hw' => ?_) ?_
  · refine ask_do rfl fun K hK => ?_
    have hp := (HB.out.grown hw' (by simp)).prule
    go_simp
    exact hK _ _ rfl rfl (World.grownBy.refl _ none)
  -- op 1 (slot 50): buildSlice
  refine MonoR.step (Pv.sl (encU) TT [2, 0]) [] (by kernel_rfl) (fun w' hw' => ?_) ?_
  · refine ask_do rfl fun K hK => ?_
    go_simp
    exact hK _ _ rfl (Sl.build [[.int .u64 2], [.int .u64 0]] rfl ⟨⟨rfl, ⟨by decide, by decide⟩⟩, ⟨rfl, ⟨by decide, by decide⟩⟩, trivial⟩ rfl (by decide)) (World.grownBy_alloc w' _ none)
  -- op 2 (slot 51): call
  refine MonoR.step (Pv.mtup [] [] 20) [(0, 49), (1, 50)] (by kernel_rfl) (fun w' hw' => ?_) ?_
  · rintro _ rfl
    intro x50 h50
    have h50 : Sl (encU) TT w' x50 [2, 0] := h50
    refine ask_do rfl fun K hK => ?_
    go_simp
    refine (smodel_any ps _ [2, 0] TT w' ps_ok h50 (by decide)).mono ?_
    rintro e w3 ⟨a3, b3, he, h3, k3, _, hg⟩
    rw [(show modelE ps [2, 0] = 20 by decide +kernel)] at he
    rw [(show modelW ps [2, 0] = [] by decide +kernel)] at h3
    rw [(show modelB ps [2, 0] = [] by decide +kernel)] at k3
    subst he
    exact hK _ _ rfl ⟨_, _, rfl, h3.plain.more (fun _ _ _ => trivial), k3.more (fun _ _ _ => trivial)⟩ hg
  -- op 3 (slot 48): move
  refine MonoR.step (Pv.mtup [] [] 20) [(2, 51)] (by kernel_rfl) (fun w' hw' => ?_) ?_
  · intro x51 q51
    obtain ⟨a51, b51, e51, h51, k51⟩ : ∃ a b, x51 = .tuple #[.agg #[a, b], .int .i64 20] ∧ Sl (encS encI) TT w' a [] ∧ Sl encI TT w' b [] := q51
    subst e51
    refine ask_do rfl fun K hK => ?_
    go_simp
    exact hK _ _ rfl ⟨_, _, rfl, h51, k51⟩ (World.grownBy.refl _ none)
  -- op 4 (slot 52): extract
  refine MonoR.step (Pv.model [] []) [(3, 48)] (by kernel_rfl) (fun w' hw' => ?_) ?_
  · intro x48 q48
    obtain ⟨a48, b48, e48, h48, k48⟩ : ∃ a b, x48 = .tuple #[.agg #[a, b], .int .i64 20] ∧ Sl (encS encI) TT w' a [] ∧ Sl encI TT w' b [] := q48
    subst e48
    refine ask_do rfl fun K hK => ?_
    go_simp
    exact hK _ _ rfl ⟨_, _, rfl, h48, k48⟩ (World.grownBy.refl _ none)
  -- op 5 (slot 53): extract
  refine MonoR.step (Pv.eq (.int .i64 20)) [(3, 48)] (by kernel_rfl) (fun w' hw' => ?_) ?_
  · intro x48 q48
    obtain ⟨a48, b48, e48, h48, k48⟩ : ∃ a b, x48 = .tuple #[.agg #[a, b], .int .i64 20] ∧ Sl (encS encI) TT w' a [] ∧ Sl encI TT w' b [] := q48
    subst e48
    refine ask_do rfl fun K hK => ?_
    go_simp
    exact hK _ _ rfl rfl (World.grownBy.refl _ none)
  intro w10 hww10
  intro _ _
  intro _ _
  intro _ _
  intro _ _
  intro v52 h52'
  rintro _ rfl
  simp only [Act.put, List.setIfInBounds_toArray, List.set_cons_zero, List.set_cons_succ]
  have HBd : Hid (Bk w10 w2.heap.size 24 ps.cells) := Lib.hid (Bk.grown HB.out hww10 (by simp))
  have HGd : Hid (w.grownBy w10 none) := Lib.hid ((HG.out).trans hww10)
  have HS3d : Hid (Sl (encP) TT w10 v3 [(5, 2), (7, 5)]) := Lib.hid (Sl.kept HS3.out hww10)
  have HA46d : Hid (Sl (encS encI) TT w10 (.slice A46 n46 c46) [[1]]) := Lib.hid (Sl.kept HA46.out hww10)
  have HBB46d : Hid (Sl encI TT w10 (.slice D46 m46 d46) [(-1)]) := Lib.hid (Sl.kept HBB46.out hww10)
  have HM9d : Hid (Bk w10 w8.heap.size 59 #[.slice A46 n46 c46, .slice D46 m46 d46]) := Lib.hid (Bk.grown HM9.out hww10 (by simp))
  clear HB
  have HB := HBd
  clear HBd
  clear HG
  have HG := HGd
  clear HGd
  clear HS3
  have HS3 := HS3d
  clear HS3d
  clear HA46
  have HA46 := HA46d
  clear HA46d
  clear HBB46
  have HBB46 := HBB46d
  clear HBB46d
  clear HM9
  have HM9 := HM9d
  clear HM9d
  obtain ⟨a52, b52, e52, ha52, hb52⟩ := h52'
  subst e52
  have HA52 : Hid (Sl (encS encI) TT w10 a52 []) := Lib.hid ha52
  have HBB52 : Hid (Sl encI TT w10 b52 []) := Lib.hid hb52
  clear ha52 hb52
  clear hww10
  show wpList Tryd.prog _ _ _ _ w10
  obtain ⟨A52, n52, c52, rfl⟩ := HA52.out.shape
  obtain ⟨D52, m52, d52, rfl⟩ := HBB52.out.shape
  obtain ⟨w11, hww11⟩ : ∃ x, w10.alloc (.cells #[.slice A52 n52 c52, .slice D52 m52 d52] 59) = x := ⟨_, rfl⟩
  have HM11 : Hid (Bk w11 w10.heap.size 59 #[.slice A52 n52 c52, .slice D52 m52 d52]) := Lib.hid (by rw [← hww11]; exact Bk.new _ _ _)
  have HMG11 : Hid (w10.grownBy w11 none) := Lib.hid (by rw [← hww11]; exact World.grownBy_alloc _ _ none)
  have HBd : Hid (Bk w11 w2.heap.size 24 ps.cells) := Lib.hid (Bk.grown HB.out HMG11.out (by simp))
  have HGd : Hid (w.grownBy w11 none) := Lib.hid ((HG.out).trans HMG11.out)
  have HS3d : Hid (Sl (encP) TT w11 v3 [(5, 2), (7, 5)]) := Lib.hid (Sl.kept HS3.out HMG11.out)
  have HA46d : Hid (Sl (encS encI) TT w11 (.slice A46 n46 c46) [[1]]) := Lib.hid (Sl.kept HA46.out HMG11.out)
  have HBB46d : Hid (Sl encI TT w11 (.slice D46 m46 d46) [(-1)]) := Lib.hid (Sl.kept HBB46.out HMG11.out)
  have HM9d : Hid (Bk w11 w8.heap.size 59 #[.slice A46 n46 c46, .slice D46 m46 d46]) := Lib.hid (Bk.grown HM9.out HMG11.out (by simp))
  have HA52d : Hid (Sl (encS encI) TT w11 (.slice A52 n52 c52) []) := Lib.hid (Sl.kept HA52.out HMG11.out)
  have HBB52d : Hid (Sl encI TT w11 (.slice D52 m52 d52) []) := Lib.hid (Sl.kept HBB52.out HMG11.out)
  clear HB
  have HB := HBd
  clear HBd
  clear HG
  have HG := HGd
  clear HGd
  clear HS3
  have HS3 := HS3d
  clear HS3d
  clear HA46
  have HA46 := HA46d
  clear HA46d
  clear HBB46
  have HBB46 := HBB46d
  clear HBB46d
  clear HM9
  have HM9 := HM9d
  clear HM9d
  clear HA52
  have HA52 := HA52d
  clear HA52d
  clear HBB52
  have HBB52 := HBB52d
  clear HBB52d
  go_upto_region 8 with (fail)
  try rw [hww11]
  clear hww11
  refine wp_region_seqm 34 (by kernel_rfl) ?_
  -- op 0 (slot 54): move
  refine MonoR.step (Pv.eq (.int .i64 0)) [] (by kernel_rfl) (fun w' hw' => ?_) ?_
  · refine ask_do rfl fun K hK => ?_
    go_simp
    exact hK _ _ rfl rfl (World.grownBy.refl _ none)
  -- op 1 (slot 55): binOp
  refine MonoR.step (Pv.eq (.bool true)) [(0, 54)] (by kernel_rfl) (fun w' hw' => ?_) ?_
  · rintro _ rfl
    refine ask_do rfl fun K hK => ?_
    go_simp
    exact hK _ _ rfl rfl (World.grownBy.refl _ none)
  -- op 2 (slot 56): move
  refine MonoR.step (Pv.eq (.bool true)) [(1, 55)] (by kernel_rfl) (fun w' hw' => ?_) ?_
  · rintro _ rfl
    refine ask_do rfl fun K hK => ?_
    go_simp
    exact hK _ _ rfl rfl (World.grownBy.refl _ none)
  -- op 3 (slot 57): move
  refine MonoR.step (Pv.sl (encP) TT [(5, 2), (7, 5)]) [(2, 56)] (by kernel_rfl) (fun w' hw' => ?_) ?_
  · rintro _ rfl
    refine ask_do rfl fun K hK => ?_
    go_simp
    exact hK _ _ rfl (HS3.out.kept hw') (World.grownBy.refl _ none)
  -- op 4 (slot 58): build
  refine MonoR.step (Pv.eq (.agg #[.int .u64 5, .int .u64 2])) [(2, 56)] (by kernel_rfl) (fun w' hw' => ?_) ?_
  · rintro _ rfl
    refine ask_do rfl fun K hK => ?_
    go_simp
    exact hK _ _ rfl rfl (World.grownBy.refl _ none)
  -- op 5 (slot 59): build
  refine MonoR.step (Pv.eq (.agg #[.int .u64 7, .int .u64 5])) [(2, 56)] (by kernel_rfl) (fun w' hw' => ?_) ?_
  · rintro _ rfl
    refine ask_do rfl fun K hK => ?_
    go_simp
    exact hK _ _ rfl rfl (World.grownBy.refl _ none)
  -- op 6 (slot 60): buildSlice
  refine MonoR.step (Pv.sl (encP) TT [(5, 2), (7, 5)]) [(2, 56), (4, 58), (5, 59)] (by kernel_rfl) (fun w' hw' => ?_) ?_
  · rintro _ rfl
    rintro _ rfl
    rintro _ rfl
    refine ask_do rfl fun K hK => ?_
    go_simp
    exact hK _ _ rfl (Sl.build [[.int .u64 5, .int .u64 2], [.int .u64 7, .int .u64 5]] rfl ⟨⟨rfl, by decide, by decide⟩, ⟨rfl, by decide, by decide⟩, trivial⟩ rfl (by decide)) (World.grownBy_alloc w' _ none)
  -- op 7 (slot 61): call
  refine MonoR.step (Pv.eq (.bool true)) [(2, 56), (3, 57), (6, 60)] (by kernel_rfl) (fun w' hw' => ?_) ?_
  · rintro _ rfl
    intro x57 h57
    have h57 : Sl (encP) TT w' x57 [(5, 2), (7, 5)] := h57
    intro x60 h60
    have h60 : Sl (encP) TT w' x60 [(5, 2), (7, 5)] := h60
    refine ask_do rfl fun K hK => ?_
    go_simp
    refine (same_eq _ _ [(5, 2), (7, 5)] TT TT w' h57 h60).mono ?_
    rintro e w3 ⟨rfl, m3, rfl⟩
    exact hK _ _ rfl rfl (grown_drewN' w' m3)
  -- op 8 (slot 62): pick
  refine MonoR.step (Pv.eq (.bool true)) [(2, 56), (7, 61)] (by kernel_rfl) (fun w' hw' => ?_) ?_
  · rintro _ rfl
    rintro _ rfl
    refine ask_do rfl fun K hK => ?_
    go_simp
    exact hK _ _ rfl rfl (World.grownBy.refl _ none)
  -- op 9 (slot 63): move
  refine MonoR.step (Pv.eq (.bool true)) [(8, 62)] (by kernel_rfl) (fun w' hw' => ?_) ?_
  · rintro _ rfl
    refine ask_do rfl fun K hK => ?_
    go_simp
    exact hK _ _ rfl rfl (World.grownBy.refl _ none)
  -- op 10 (slot 64): move
  refine MonoR.step (Pv.eq (.int .i64 6)) [(9, 63)] (by kernel_rfl) (fun w' hw' => ?_) ?_
  · rintro _ rfl
    refine ask_do rfl fun K hK => ?_
    go_simp
    exact hK _ _ rfl rfl (World.grownBy.refl _ none)
  -- op 11 (slot 65): binOp
  refine MonoR.step (Pv.eq (.bool true)) [(9, 63), (10, 64)] (by kernel_rfl) (fun w' hw' => ?_) ?_
  · rintro _ rfl
    rintro _ rfl
    refine ask_do rfl fun K hK => ?_
    go_simp
    exact hK _ _ rfl rfl (World.grownBy.refl _ none)
  -- op 12 (slot 66): pick
  refine MonoR.step (Pv.eq (.bool true)) [(9, 63), (11, 65)] (by kernel_rfl) (fun w' hw' => ?_) ?_
  · rintro _ rfl
    rintro _ rfl
    refine ask_do rfl fun K hK => ?_
    go_simp
    exact hK _ _ rfl rfl (World.grownBy.refl _ none)
  -- op 13 (slot 67): move
  refine MonoR.step (Pv.eq (.bool true)) [(12, 66)] (by kernel_rfl) (fun w' hw' => ?_) ?_
  · rintro _ rfl
    refine ask_do rfl fun K hK => ?_
    go_simp
    exact hK _ _ rfl rfl (World.grownBy.refl _ none)
  -- op 14 (slot 68): move
  refine MonoR.step (Pv.eq (.int .i64 1)) [(13, 67)] (by kernel_rfl) (fun w' hw' => ?_) ?_
  · rintro _ rfl
    refine ask_do rfl fun K hK => ?_
    go_simp
    exact hK _ _ rfl rfl (World.grownBy.refl _ none)
  -- op 15 (slot 69): binOp
  refine MonoR.step (Pv.eq (.bool true)) [(13, 67), (14, 68)] (by kernel_rfl) (fun w' hw' => ?_) ?_
  · rintro _ rfl
    rintro _ rfl
    refine ask_do rfl fun K hK => ?_
    go_simp
    exact hK _ _ rfl rfl (World.grownBy.refl _ none)
  -- op 16 (slot 70): pick
  refine MonoR.step (Pv.eq (.bool true)) [(13, 67), (15, 69)] (by kernel_rfl) (fun w' hw' => ?_) ?_
  · rintro _ rfl
    rintro _ rfl
    refine ask_do rfl fun K hK => ?_
    go_simp
    exact hK _ _ rfl rfl (World.grownBy.refl _ none)
  -- op 17 (slot 71): move
  refine MonoR.step (Pv.eq (.bool true)) [(16, 70)] (by kernel_rfl) (fun w' hw' => ?_) ?_
  · rintro _ rfl
    refine ask_do rfl fun K hK => ?_
    go_simp
    exact hK _ _ rfl rfl (World.grownBy.refl _ none)
  -- op 18 (slot 72): move
  refine MonoR.step (Pv.eq (.int .i64 0)) [(17, 71)] (by kernel_rfl) (fun w' hw' => ?_) ?_
  · rintro _ rfl
    refine ask_do rfl fun K hK => ?_
    go_simp
    exact hK _ _ rfl rfl (World.grownBy.refl _ none)
  -- op 19 (slot 73): binOp
  refine MonoR.step (Pv.eq (.bool true)) [(17, 71), (18, 72)] (by kernel_rfl) (fun w' hw' => ?_) ?_
  · rintro _ rfl
    rintro _ rfl
    refine ask_do rfl fun K hK => ?_
    go_simp
    exact hK _ _ rfl rfl (World.grownBy.refl _ none)
  -- op 20 (slot 74): pick
  refine MonoR.step (Pv.eq (.bool true)) [(17, 71), (19, 73)] (by kernel_rfl) (fun w' hw' => ?_) ?_
  · rintro _ rfl
    rintro _ rfl
    refine ask_do rfl fun K hK => ?_
    go_simp
    exact hK _ _ rfl rfl (World.grownBy.refl _ none)
  -- op 21 (slot 75): move
  refine MonoR.step (Pv.eq (.bool true)) [(20, 74)] (by kernel_rfl) (fun w' hw' => ?_) ?_
  · rintro _ rfl
    refine ask_do rfl fun K hK => ?_
    go_simp
    exact hK _ _ rfl rfl (World.grownBy.refl _ none)
  -- op 22 (slot 76): load
  refine MonoR.step (Pv.model [[1]] [(-1)]) [(21, 75)] (by kernel_rfl) (fun w' hw' => ?_) ?_
  · rintro _ rfl
    refine ask_do rfl fun K hK => ?_
    have hm0 := (HM9.out.grown hw' (by simp)).cell 0
    have hm1 := (HM9.out.grown hw' (by simp)).cell 1
    simp at hm0 hm1
    go_simp
    exact hK _ _ rfl ⟨_, _, rfl, HA46.out.kept hw', HBB46.out.kept hw'⟩ (World.grownBy.refl _ none)
  -- op 23 (slot 77): buildSlice
  refine MonoR.step (Pv.sl (encI) TT [1]) [(21, 75)] (by kernel_rfl) (fun w' hw' => ?_) ?_
  · rintro _ rfl
    refine ask_do rfl fun K hK => ?_
    go_simp
    exact hK _ _ rfl (Sl.build [[.int .i64 1]] rfl ⟨⟨rfl, ⟨by decide, by decide⟩⟩, trivial⟩ rfl (by decide)) (World.grownBy_alloc w' _ none)
  -- op 24 (slot 78): buildSlice
  refine MonoR.step (Pv.sl (encS encI) TT [[1]]) [(21, 75), (23, 77)] (by kernel_rfl) (fun w' hw' => ?_) ?_
  · rintro _ rfl
    intro x77 h77
    have h77 : Sl (encI) TT w' x77 [1] := h77
    obtain ⟨A77, c77, e77, k77, l77⟩ := h77.form
    have e77 : x77 = .slice A77 1 c77 := e77
    subst e77
    refine ask_do rfl fun K hK => ?_
    go_simp
    exact hK _ _ rfl (Sl.build [[.slice A77 1 c77]] rfl ⟨⟨_, rfl, h77⟩, trivial⟩ rfl (by decide)) (World.grownBy_alloc w' _ none)
  -- op 25 (slot 79): buildSlice
  refine MonoR.step (Pv.sl (encI) TT [(-1)]) [(21, 75)] (by kernel_rfl) (fun w' hw' => ?_) ?_
  · rintro _ rfl
    refine ask_do rfl fun K hK => ?_
    go_simp
    exact hK _ _ rfl (Sl.build [[.int .i64 (-1)]] rfl ⟨⟨rfl, ⟨by decide, by decide⟩⟩, trivial⟩ rfl (by decide)) (World.grownBy_alloc w' _ none)
  -- op 26 (slot 80): build
  refine MonoR.step (Pv.model [[1]] [(-1)]) [(21, 75), (24, 78), (25, 79)] (by kernel_rfl) (fun w' hw' => ?_) ?_
  · rintro _ rfl
    intro x78 h78
    have h78 : Sl (encS encI) TT w' x78 [[1]] := h78
    obtain ⟨A78, c78, e78, k78, l78⟩ := h78.form
    have e78 : x78 = .slice A78 1 c78 := e78
    subst e78
    intro x79 h79
    have h79 : Sl (encI) TT w' x79 [(-1)] := h79
    obtain ⟨A79, c79, e79, k79, l79⟩ := h79.form
    have e79 : x79 = .slice A79 1 c79 := e79
    subst e79
    refine ask_do rfl fun K hK => ?_
    go_simp
    exact hK _ _ rfl ⟨_, _, rfl, h78, h79⟩ (World.grownBy.refl _ none)
  -- op 27 (slot 81): call
  refine MonoR.step (Pv.eq (.bool true)) [(21, 75), (22, 76), (26, 80)] (by kernel_rfl) (fun w' hw' => ?_) ?_
  · rintro _ rfl
    intro x76 q76
    obtain ⟨a76, b76, e76, h76, k76⟩ : ∃ a b, x76 = .agg #[a, b] ∧ Sl (encS encI) TT w' a [[1]] ∧ Sl encI TT w' b [(-1)] := q76
    subst e76
    intro x80 q80
    obtain ⟨a80, b80, e80, h80, k80⟩ : ∃ a b, x80 = .agg #[a, b] ∧ Sl (encS encI) TT w' a [[1]] ∧ Sl encI TT w' b [(-1)] := q80
    subst e80
    refine ask_do rfl fun K hK => ?_
    go_simp
    refine (models_eq _ _ _ _ [[1]] [(-1)] TT TT TT TT w' h76 k76 h80 k80).mono ?_
    rintro e w3 ⟨rfl, hg⟩
    exact hK _ _ rfl rfl hg
  -- op 28 (slot 82): pick
  refine MonoR.step (Pv.eq (.bool true)) [(21, 75), (27, 81)] (by kernel_rfl) (fun w' hw' => ?_) ?_
  · rintro _ rfl
    rintro _ rfl
    refine ask_do rfl fun K hK => ?_
    go_simp
    exact hK _ _ rfl rfl (World.grownBy.refl _ none)
  -- op 29 (slot 83): move
  refine MonoR.step (Pv.eq (.bool true)) [(28, 82)] (by kernel_rfl) (fun w' hw' => ?_) ?_
  · rintro _ rfl
    refine ask_do rfl fun K hK => ?_
    go_simp
    exact hK _ _ rfl rfl (World.grownBy.refl _ none)
  -- op 30 (slot 84): move
  refine MonoR.step (Pv.eq (.int .i64 20)) [(29, 83)] (by kernel_rfl) (fun w' hw' => ?_) ?_
  · rintro _ rfl
    refine ask_do rfl fun K hK => ?_
    go_simp
    exact hK _ _ rfl rfl (World.grownBy.refl _ none)
  -- op 31 (slot 85): binOp
  refine MonoR.step (Pv.eq (.bool true)) [(29, 83), (30, 84)] (by kernel_rfl) (fun w' hw' => ?_) ?_
  · rintro _ rfl
    rintro _ rfl
    refine ask_do rfl fun K hK => ?_
    go_simp
    exact hK _ _ rfl rfl (World.grownBy.refl _ none)
  -- op 32 (slot 86): pick
  refine MonoR.step (Pv.eq (.bool true)) [(29, 83), (31, 85)] (by kernel_rfl) (fun w' hw' => ?_) ?_
  · rintro _ rfl
    rintro _ rfl
    refine ask_do rfl fun K hK => ?_
    go_simp
    exact hK _ _ rfl rfl (World.grownBy.refl _ none)
  -- op 33 (slot 0): assign
  refine MonoR.step (Pv.eq (.bool true)) [(32, 86)] (by kernel_rfl) (fun w' hw' => ?_) ?_
  · rintro _ rfl
    refine ask_do rfl fun K hK => ?_
    go_simp
    exact hK _ _ rfl rfl (World.grownBy.refl _ none)
  intro w12 hww12
  intro _ _
  intro _ _
  intro _ _
  intro _ _
  intro _ _
  intro _ _
  intro _ _
  intro _ _
  intro _ _
  intro _ _
  intro _ _
  intro _ _
  intro _ _
  intro _ _
  intro _ _
  intro _ _
  intro _ _
  intro _ _
  intro _ _
  intro _ _
  intro _ _
  intro _ _
  intro _ _
  intro _ _
  intro _ _
  intro _ _
  intro _ _
  intro _ _
  intro _ _
  intro _ _
  intro _ _
  intro _ _
  intro _ _
  rintro _ rfl
  simp only [Act.put, List.setIfInBounds_toArray, List.set_cons_zero, List.set_cons_succ]
  have HBd : Hid (Bk w12 w2.heap.size 24 ps.cells) := Lib.hid (Bk.grown HB.out hww12 (by simp))
  have HGd : Hid (w.grownBy w12 none) := Lib.hid ((HG.out).trans hww12)
  have HS3d : Hid (Sl (encP) TT w12 v3 [(5, 2), (7, 5)]) := Lib.hid (Sl.kept HS3.out hww12)
  have HA46d : Hid (Sl (encS encI) TT w12 (.slice A46 n46 c46) [[1]]) := Lib.hid (Sl.kept HA46.out hww12)
  have HBB46d : Hid (Sl encI TT w12 (.slice D46 m46 d46) [(-1)]) := Lib.hid (Sl.kept HBB46.out hww12)
  have HM9d : Hid (Bk w12 w8.heap.size 59 #[.slice A46 n46 c46, .slice D46 m46 d46]) := Lib.hid (Bk.grown HM9.out hww12 (by simp))
  have HA52d : Hid (Sl (encS encI) TT w12 (.slice A52 n52 c52) []) := Lib.hid (Sl.kept HA52.out hww12)
  have HBB52d : Hid (Sl encI TT w12 (.slice D52 m52 d52) []) := Lib.hid (Sl.kept HBB52.out hww12)
  clear HB
  have HB := HBd
  clear HBd
  clear HG
  have HG := HGd
  clear HGd
  clear HS3
  have HS3 := HS3d
  clear HS3d
  clear HA46
  have HA46 := HA46d
  clear HA46d
  clear HBB46
  have HBB46 := HBB46d
  clear HBB46d
  clear HM9
  have HM9 := HM9d
  clear HM9d
  clear HA52
  have HA52 := HA52d
  clear HA52d
  clear HBB52
  have HBB52 := HBB52d
  clear HBB52d
  clear hww12
  refine wpList_nil ?_
  go_wp2
  go_ret
  exact ⟨rfl, HG.out⟩
end Go.Proofs.YtmjdpmfcbeaecaaDoor

namespace Go.Proofs.YtmjdpmfcbeaecaaDoor
open Go Go.RowKit

/-- Numbers do not lie in a block in which no two of them stand side by side. -/
theorem sl_apartU {X : Nat → Prop} {W : World} {v : Value} {S : List Int} (h : Sl encU X W v S) (h2 : 2 ≤ S.length) {b : Nat} {t : TypeId} {cs : Array Value} (hb : Bk W b t cs) (hc : ∀ i a c, cs[i]? = some (.int .u64 a) → cs[i + 1]? = some (.int .u64 c) → False) : Sl encU (fun g => g ≠ b) W v S := by
  obtain ⟨A, c, e, h3, h4, h5⟩ := h
  refine ⟨A, c, e, h3, h4, fun hn => ?_⟩
  obtain ⟨g, o, eA, lt, _, hi⟩ := h5 hn
  refine ⟨g, o, eA, lt, fun eg => ?_, hi⟩
  subst eg
  obtain ⟨c0, ⟨r0, _⟩, k0⟩ := hi 0 (by omega)
  obtain ⟨c1, ⟨r1, _⟩, k1⟩ := hi 1 (by omega)
  have q0 := k0 0 (.int .u64 S[0]) (by rw [r0]; rfl)
  have q1 := k1 0 (.int .u64 S[1]) (by rw [r1]; rfl)
  rw [hb.cell] at q0 q1
  exact hc o _ _ (by simpa [encU] using q0) (by simpa [encU] using q1)
theorem sl_apartI {X : Nat → Prop} {W : World} {v : Value} {S : List Int} (h : Sl encI X W v S) {b : Nat} {t : TypeId} {cs : Array Value} (hb : Bk W b t cs) (hc : ∀ (i : Nat) a, cs[i]? = some (.int .i64 a) → False) : Sl encI (fun g => g ≠ b) W v S := by
  obtain ⟨A, c, e, h3, h4, h5⟩ := h
  refine ⟨A, c, e, h3, h4, fun hn => ?_⟩
  obtain ⟨g, o, eA, lt, _, hi⟩ := h5 hn
  refine ⟨g, o, eA, lt, fun eg => ?_, hi⟩
  subst eg
  obtain ⟨c0, ⟨r0, _⟩, k0⟩ := hi 0 (List.length_pos_iff.2 hn)
  have q0 := k0 0 (.int .i64 (S[0]'(List.length_pos_iff.2 hn))) (by rw [r0]; rfl)
  rw [hb.cell] at q0
  exact hc _ _ q0
theorem sl_apartS {X : Nat → Prop} {W : World} {v : Value} {S : List (List Int)} (h : Sl (encS encI) X W v S) (hr : ∀ r ∈ S, 0 < r.length) {b : Nat} {t : TypeId} {cs : Array Value} (hb : Bk W b t cs) (hc : ∀ (i : Nat) u, cs[i]? = some u → u = .slice none 0 0) : Sl (encS encI) (fun g => g ≠ b) W v S := by
  have hI : ∀ (i : Nat) a, cs[i]? = some (.int .i64 a) → False := fun i a e => by have := hc i _ e; cases this
  obtain ⟨A, c, e, h3, h4, h5⟩ := h
  refine ⟨A, c, e, h3, h4, fun hn => ?_⟩
  obtain ⟨g, o, eA, lt, _, hi⟩ := h5 hn
  refine ⟨g, o, eA, lt, fun eg => ?_, fun i h => ?_⟩
  · subst eg
    obtain ⟨c0, ⟨u, r0, k⟩, k0⟩ := hi 0 (List.length_pos_iff.2 hn)
    have q0 := k0 0 u (by rw [r0]; rfl)
    rw [hb.cell] at q0
    obtain ⟨A', c', e', _⟩ := k.form
    have := hc _ _ q0
    rw [e'] at this
    injection this with _ e2 _
    have := hr _ (List.getElem_mem (List.length_pos_iff.2 hn))
    omega
  · obtain ⟨c0, ⟨u, r0, k⟩, k0⟩ := hi i h
    exact ⟨c0, ⟨u, r0, sl_apartI k hb hI⟩, k0⟩
/-- Where the worlds stand while a model is dealt. -/
def w4Lt (D : World) (seed : Int) (SH : List (List (Int × Int))) : Lt where
  C vs W := D.grownBy W none ∧ match vs with
    | [] => True
    | [u] => ∃ g, u = .pointer (some ⟨g, 0, none⟩) ∧ D.heap.size ≤ g ∧ Bk W g 117 #[.int .u64 seed, .slice none 0 0, .int .i64 0]
    | [_, x] => ∃ a b, x = .tuple #[a, b, .int .i64 0] ∧ Sl (encS encP) TT W a SH
    | _ => False
  R q W W' := match q with
    | 0 => W.grownBy W' none
    | _ => True
  g := fun {vs X Y} ⟨h1, h2⟩ hg => ⟨h1.trans hg, by
    match vs, h2 with
    | [], h2 => exact h2
    | [_], ⟨g, a, b, c⟩ => exact ⟨g, a, b, c.grown hg (by simp)⟩
    | [_, _], ⟨a, b, c, d⟩ => exact ⟨a, b, c, d.kept hg⟩⟩
theorem w4_at {D : World} {seed : Int} {SH : List (List (Int × Int))} {vs : List Value} {W : World} {x : Value} (hC : (w4Lt D seed SH).C vs W) (h : vs[1]? = some x) : ∃ a b, x = .tuple #[a, b, .int .i64 0] := by
  obtain ⟨_, h2⟩ := hC
  match vs, h, h2 with
  | [_, y], h, ⟨a, b, c, _⟩ =>
    have h : some y = some x := h
    injection h with h
    exact ⟨a, b, h ▸ c⟩
def w4S {D : World} {seed : Int} {SH : List (List (Int × Int))} (S : List Int) : Qv (w4Lt D seed SH) where
  p vs v W := vs.length ≤ 1 → Sl encU TT W v S
  fr := 0
  st := fun h hg e => (h e).kept hg
  sr := fun {vs u v w w'} _ _ hR h e => by
    have h0 : vs = [] := by simpa using e
    subst h0
    exact (h (by simp)).kept hR
def w4X {D : World} {seed : Int} {SH : List (List (Int × Int))} : Qv (w4Lt D seed SH) where
  p vs v _ := vs[1]? = some v
  fr := 0
  st := fun h _ => h
  sr := fun {vs u v w w'} _ _ _ h => by
    have := (List.getElem?_eq_some_iff.1 h).1
    rw [List.getElem?_append_left this]
    exact h
def w4E {D : World} {seed : Int} {SH : List (List (Int × Int))} : Qv (w4Lt D seed SH) where
  p vs v _ := ∃ b, vs[1]? = some (.tuple #[v, b, .int .i64 0])
  fr := 0
  st := fun {vs v w w'} ⟨b, h⟩ _ => ⟨b, h⟩
  sr := fun {vs u v w w'} _ _ _ ⟨b, h⟩ => ⟨b, by
    have := (List.getElem?_eq_some_iff.1 h).1
    rw [List.getElem?_append_left this]
    exact h⟩
/-- Where the worlds stand while what came of it is told as a model. -/
def w9Lt (D : World) (ww : List (List Int)) (bb : List Int) : Lt where
  C vs W := D.grownBy W none ∧ match vs with
    | [] => True
    | [u] => ∃ b, u = .pointer (some ⟨b, 0, none⟩) ∧ D.heap.size ≤ b ∧ Bk W b 59 #[.slice none 0 0, .slice none 0 0]
    | [u, _] => ∃ b v1 v2, u = .pointer (some ⟨b, 0, none⟩) ∧ Bk W b 59 #[v1, v2] ∧ Sl (encS encI) TT W v1 ww ∧ Sl encI TT W v2 bb
    | _ => False
  R q W W' := match q with
    | 0 => W.grownBy W' none
    | 1 => ∃ b, Bk W b 59 #[.slice none 0 0, .slice none 0 0] ∧ W.grownBy W' (some b)
    | _ => False
  g := fun {vs X Y} ⟨h1, h2⟩ hg => ⟨h1.trans hg, by
    match vs, h2 with
    | [], h2 => exact h2
    | [_], ⟨g, a, b, c⟩ => exact ⟨g, a, b, c.grown hg (by simp)⟩
    | [_, _], ⟨a, b, c, d, e, f, g⟩ => exact ⟨a, b, c, d, e.grown hg (by simp), f.kept hg, g.kept hg⟩⟩
theorem nil2 : ∀ (i : Nat) u, (#[.slice none 0 0, .slice none 0 0] : Array Value)[i]? = some u → u = .slice none 0 0
  | 0, u, h => by simpa using h.symm
  | 1, u, h => by simpa using h.symm
  | n + 2, u, h => by simp at h
def w9S {D : World} {ww : List (List Int)} {bb : List Int} (S : List Int) (hS : 2 ≤ S.length) : Qv (w9Lt D ww bb) where
  p _ v W := Sl encU TT W v S
  fr := 0
  st := fun h hg => h.kept hg
  sr := fun {vs u v w w'} _ _ hR h => by
    match vs, hR with
    | [], hR => exact h.kept hR
    | [_], hR =>
      obtain ⟨b, hb, hg⟩ : ∃ b, Bk w b 59 #[.slice none 0 0, .slice none 0 0] ∧ w.grownBy w' (some b) := hR
      exact ((sl_apartU h hS hb (fun i a c e _ => by have := nil2 i _ e; cases this)).keep hg (fun g hn e => hn (by injection e with e))).more fun _ _ _ => trivial
    | _ :: _ :: _, hR => exact hR.elim
def w9T {D : World} {ww : List (List Int)} {bb : List Int} (W0 : List (List Int)) (B0 : List Int) : Qv (w9Lt D ww bb) where
  p vs v W := ∃ v1 v2, v = .tuple #[.agg #[v1, v2], .int .i64 0] ∧ (vs.length ≤ 1 → Sl (encS encI) TT W v1 W0 ∧ Sl encI TT W v2 B0)
  fr := 0
  st := fun ⟨v1, v2, e, h⟩ hg => ⟨v1, v2, e, fun k => ⟨(h k).1.kept hg, (h k).2.kept hg⟩⟩
  sr := fun {vs u v w w'} _ _ hR ⟨v1, v2, e, h⟩ => ⟨v1, v2, e, fun k => by
    have h0 : vs = [] := by simpa using k
    subst h0
    exact ⟨(h (by simp)).1.kept hR, (h (by simp)).2.kept hR⟩⟩
def w9A {D : World} {ww : List (List Int)} {bb : List Int} (W0 : List (List Int)) (B0 : List Int) : Qv (w9Lt D ww bb) where
  p vs v W := ∃ v1 v2, v = .agg #[v1, v2] ∧ (vs.length ≤ 1 → Sl (encS encI) TT W v1 W0 ∧ Sl encI TT W v2 B0)
  fr := 0
  st := fun ⟨v1, v2, e, h⟩ hg => ⟨v1, v2, e, fun k => ⟨(h k).1.kept hg, (h k).2.kept hg⟩⟩
  sr := fun {vs u v w w'} _ _ hR ⟨v1, v2, e, h⟩ => ⟨v1, v2, e, fun k => by
    have h0 : vs = [] := by simpa using k
    subst h0
    exact ⟨(h (by simp)).1.kept hR, (h (by simp)).2.kept hR⟩⟩
theorem w9_set {D W : World} {gb : Nat} {v1 v2 : Value} {ww : List (List Int)} {bb : List Int} (hr : ∀ r ∈ ww, 0 < r.length) (g1 : D.grownBy W none) (g2 : D.heap.size ≤ gb) (g3 : Bk W gb 59 #[.slice none 0 0, .slice none 0 0]) (k1 : Sl (encS encI) TT W v1 ww) (k2 : Sl encI TT W v2 bb) :
    W.grownBy ((W.setCell ⟨gb, 0, none⟩ v1).setCell ⟨gb, 1, none⟩ v2) (some gb) ∧ D.grownBy ((W.setCell ⟨gb, 0, none⟩ v1).setCell ⟨gb, 1, none⟩ v2) none ∧ Bk ((W.setCell ⟨gb, 0, none⟩ v1).setCell ⟨gb, 1, none⟩ v2) gb 59 #[v1, v2] ∧ Sl (encS encI) TT ((W.setCell ⟨gb, 0, none⟩ v1).setCell ⟨gb, 1, none⟩ v2) v1 ww ∧ Sl encI TT ((W.setCell ⟨gb, 0, none⟩ v1).setCell ⟨gb, 1, none⟩ v2) v2 bb := by
  have hg := (grownSet W gb 0 v1).trans (grownSet (W.setCell ⟨gb, 0, none⟩ v1) gb 1 v2)
  refine ⟨hg, grown_up g1 hg (fun r e => by injection e with e; omega), (g3.set 0 v1).set 1 v2, ?_, ?_⟩
  · exact ((sl_apartS k1 hr g3 nil2).keep hg (fun g hn e => hn (by injection e with e))).more fun _ _ _ => trivial
  · exact ((sl_apartI k2 g3 (fun i a e => by have := nil2 i _ e; cases this)).keep hg (fun g hn e => hn (by injection e with e))).more fun _ _ _ => trivial
theorem ff_zero {q : Int} {dr : Nat → Int} {T k : Nat} {S : List Int} (hS : ∀ x ∈ S, 0 ≤ x ∧ x < q) : (dealFs S q dr T k S.length).map (fun f => (f[0]?.getD 0) % q) = S := by
  refine List.ext_getElem (by simp [dealFs]) fun i h1 h2 => ?_
  have hb := hS _ (List.getElem_mem h2)
  simp only [dealFs, List.getElem_map, List.getElem_range, dealF, behI]
  rw [List.getElem?_eq_getElem h2]
  simp only [List.getElem?_cons_zero, Option.getD_some]
  rw [Int.emod_eq_of_lt hb.1 hb.2, Int.emod_eq_of_lt hb.1 hb.2]
theorem pick_all {p : Par} {F R : List (List Int)} {N : Nat} {at_ : List Int} (h : ∀ i ∈ at_, 1 ≤ i ∧ i ≤ (N : Int)) : (at_.map fun i => ((List.range N).map fun i : Nat => dealtI p F R ((i : Int) + 1))[(i - 1).toNat]?.getD []) = at_.map (dealtI p F R) := by
  refine List.map_congr_left fun i hi => ?_
  obtain ⟨h1, h2⟩ := h i hi
  rw [List.getElem?_map, List.getElem?_range (by omega)]
  show dealtI p F R (((i - 1).toNat : Int) + 1) = _
  rw [show (((i - 1).toNat : Int) + 1) = i by omega]
set_option maxRecDepth 100000 in
set_option maxHeartbeats 8000000 in
theorem swhole_any (p : Par) (v : Value) (l : List Int) (seed which : Int) (w : World) (hp : p.ok) (h : Sl encI (fun _ => True) w v l) (hsd : U64 seed) (hwh : I64 which) (hT : TabsAt w) :
    Calls Tryd.prog 5 #[p.v, v, .int .u64 seed, .int .i64 which] w fun e w' => e = .returned (.bool true) ∧ w.grownBy w' none := by
  have HP := Lib.hid hp
  have HL := Lib.hid h
  obtain ⟨A, c, rfl, hl1, hl2⟩ := h.form
  have HM := Lib.hid (fun (w' : World) (hg : w.grownBy w' none) => may_any p w' hp (hT.kept hg))
  have HTB := Lib.hid hT
  clear h hp hT
  obtain ⟨n, hnl⟩ : ∃ n, n = l.length := ⟨_, rfl⟩
  have HNL := Lib.hid hnl
  rw [← hnl] at hl1 HL ⊢
  have HB0 : Hid (Bk (w.alloc (Obj.cells p.cells 24)) w.heap.size 24 p.cells) := Lib.hid (Bk.new w _ _)
  have HG0 : Hid (w.grownBy (w.alloc (Obj.cells p.cells 24)) none) := Lib.hid (World.grownBy_alloc w _ none)
  cases hm : mayP p with
  | false =>
    rw [hm] at HM
    clear hm hnl
    go_enter Tryd.func5, Tryd.ntmps5
    go_wp2_with fail
    refine (works20_any _).mono ?_
    rintro e w1 ⟨rfl, hg⟩
    have HG1 := hidTrans hg HG0
    have hp1 := (bkGrown hg HB0).out.prule
    clear hg
    go_wp2_with fail
    refine (HM.out _ HG1.out).mono ?_
    rintro e w2 ⟨rfl, hg⟩
    have HG2 := hidTrans hg HG1
    clear hg
    go_wp2_with fail
    refine (works20_any _).mono ?_
    rintro e w3 ⟨rfl, hg⟩
    have HG3 := hidTrans hg HG2
    clear hg hp1
    go_wp2
    go_ret
    exact ⟨rfl, HG3.out⟩
  | true =>
    rw [hm] at HM
    by_cases hbig : n > 100
    · have hbI : (n : Int) > 100 := by omega
      clear hm hbig hnl
      go_enter Tryd.func5, Tryd.ntmps5
      go_wp2_with fail
      refine (works20_any _).mono ?_
      rintro e w1 ⟨rfl, hg⟩
      have HG1 := hidTrans hg HG0
      have hp1 := (bkGrown hg HB0).out.prule
      clear hg
      go_wp2_with fail
      refine (HM.out _ HG1.out).mono ?_
      rintro e w2 ⟨rfl, hg⟩
      have HG2 := hidTrans hg HG1
      clear hg
      go_wp2_with fail
      refine (works20_any _).mono ?_
      rintro e w3 ⟨rfl, hg⟩
      have HG3 := hidTrans hg HG2
      clear hg hp1
      go_wp2
      go_ret
      exact ⟨rfl, HG3.out⟩
    · have hbI : (n : Int) ≤ 100 := by omega
      have HMAY := Lib.hid hm
      have HN100 : Hid (l.length ≤ 100) := Lib.hid (by omega)
      have HSD := Lib.hid hsd
      have HWH := Lib.hid hwh
      obtain ⟨hq, hP, ha, n1, n2, n3, t1, t2, t3, hs, k1, d1⟩ := may_apart hm
      obtain ⟨sk1, sk2, sd1, sd2, sM1, sM2, sMQ, _, _, sQ⟩ := may_sizes hm
      have HQP : Hid (0 < p.Q ∧ U64 p.Q) := Lib.hid ⟨mayB_pos hq, HP.out.Q⟩
      have hsec := secretsI_eq hm
      obtain ⟨T, hTT⟩ : ∃ k : Nat, (k : Int) = p.T := ⟨p.T.toNat, by omega⟩
      obtain ⟨N, hNN⟩ : ∃ k : Nat, (k : Int) = p.N := ⟨p.N.toNat, by omega⟩
      have hT1 : 1 ≤ p.T := t1
      have hT2 : p.T ≤ 2 := t2
      have HTN : Hid ((T : Int) = p.T ∧ (N : Int) = p.N ∧ p.N.toNat = N ∧ T ≤ 2 ∧ T + 1 ≤ N ∧ N ≤ 7) := Lib.hid (by omega)
      obtain ⟨S, hS⟩ : ∃ y, y = whoS p l := ⟨_, rfl⟩
      have hSl : (S.length : Int) = secretsI p := by
        have h0 : 0 ≤ secretsI p := by rw [hsec]; exact Int.natCast_nonneg _
        rw [hS]
        unfold whoS
        rw [List.length_map, List.length_range]
        omega
      have hS10 : S.length ≤ 10 ∧ 2 ≤ S.length := by
        have h1 : p.K.toNat * (p.D.toNat + 1) ≤ 2 * 5 := Nat.mul_le_mul (by omega) (by omega)
        have h2 : 1 * 2 ≤ p.K.toNat * (p.D.toNat + 1) := Nat.mul_le_mul (by omega) (by omega)
        omega
      have HS1 : Hid (2 ≤ S.length) := Lib.hid hS10.2
      have HSB : Hid (∀ x ∈ S, 0 ≤ x ∧ x < p.Q) := Lib.hid (fun x hx => by
        rw [hS] at hx
        obtain ⟨a, _, rfl⟩ := List.mem_map.1 hx
        have := HQP.out.1
        exact ⟨Int.emod_nonneg _ (by omega), Int.emod_lt_of_pos _ this⟩)
      have HSL : Hid ((S.length : Int) = secretsI p ∧ S.length ≤ 10) := Lib.hid ⟨hSl, hS10.1⟩
      obtain ⟨DR, hDR⟩ : ∃ y : Nat → Int, y = fun k => drawX p.Q (seedS p.Q seed k) := ⟨_, rfl⟩
      have HTP : Hid (∀ g, Tp g p.Q DR (fun k w => Bk w g 117 #[.int .u64 (seedS p.Q seed k), .slice none 0 0, .int .i64 k]) (fun b => b = g) 1000000) := Lib.hid (fun g => by rw [hDR]; exact tp_own g p.Q seed HSD.out HQP.out.2)
      obtain ⟨FF, hFF⟩ : ∃ y, y = dealFs S p.Q DR T 0 S.length := ⟨_, rfl⟩
      obtain ⟨RR, hRR⟩ : ∃ y, y = dealRs p.Q DR T 0 S.length := ⟨_, rfl⟩
      obtain ⟨SH, hSH⟩ : ∃ y, y = (List.range N).map fun i : Nat => dealtI p FF RR ((i : Int) + 1) := ⟨_, rfl⟩
      obtain ⟨AT, hAT⟩ : ∃ y, y = someI ((T + 1 : Nat) : Int) p.N which := ⟨_, rfl⟩
      obtain ⟨PK, hPK⟩ : ∃ y, y = AT.map (dealtI p FF RR) := ⟨_, rfl⟩
      have hws := who_sum hm which (t := T + 1) (by omega) FF RR (by rw [hFF]; simpa [dealFs] using hSl) (fun f hf => by
        rw [hFF] at hf
        obtain ⟨i, _, rfl⟩ := List.mem_map.1 hf
        exact behI_len _ _ _ _ _)
      rw [← hAT, ← hPK] at hws
      have hfz : FF.map (fun f => (f[0]?.getD 0) % p.Q) = S := by rw [hFF]; exact ff_zero HSB.out
      rw [hfz] at hws
      have hwm := who_model hm l
      rw [← hS] at hwm
      have HWM := Lib.hid hwm
      have HWS := Lib.hid hws
      have HATI : Hid (∀ i ∈ AT, 1 ≤ i ∧ i ≤ (N : Int)) := Lib.hid (by rw [hAT, hNN]; exact someI_in (by omega))
      have HATL : Hid (AT.length = T + 1) := Lib.hid (by rw [hAT]; simp [someI])
      have HPA : Hid ((AT.map fun i => SH[(i - 1).toNat]?.getD []) = PK) := Lib.hid (by rw [hSH, hPK]; exact pick_all HATI.out)
      have HSHL : Hid (SH.length = N) := Lib.hid (by rw [hSH]; simp)
      have HWR : Hid (∀ r ∈ whoW p l, 0 < r.length) := Lib.hid (fun r hr => by
        obtain ⟨k, _, rfl⟩ := List.mem_map.1 hr
        simp
        omega)
      have HWL : Hid (((whoW p l).length : Int) = p.K ∧ ((whoB p l).length : Int) = p.K ∧ (∀ r ∈ whoW p l, (r.length : Int) = p.D) ∧ (∀ r ∈ whoW p l, ∀ x ∈ r, farB p.M x = false) ∧ (∀ x ∈ whoB p l, farB p.M x = false)) := Lib.hid (by
        have hfar : ∀ a, farB p.M (drw l p.M a) = false := fun a => by
          have := drw_bd l sM1 a
          have hwr : wrap64 (-p.M) = -p.M := IntWalk.wrap64_in _ ⟨by omega, by omega⟩
          simp [farB, hwr]
          omega
        refine ⟨by simp [whoW]; omega, by simp [whoB]; omega, fun r hr => ?_, fun r hr x hx => ?_, fun x hx => ?_⟩
        · obtain ⟨k, _, rfl⟩ := List.mem_map.1 hr
          simp
          omega
        · obtain ⟨k, _, rfl⟩ := List.mem_map.1 hr
          obtain ⟨d, _, rfl⟩ := List.mem_map.1 hx
          exact hfar _
        · obtain ⟨k, _, rfl⟩ := List.mem_map.1 hx
          exact hfar _)
      have HSEC2 : Hid (secL p.Q (whoW p l) (whoB p l) (whoW p l).length = S) := Lib.hid (by
        rw [hS, ← who_secrets hm l]
        congr 1
        have := HWL.out.1
        omega)
      have HSHE := Lib.hid hSH
      have HFE := Lib.hid hFF
      have HRE := Lib.hid hRR
      have HAE := Lib.hid hAT
      clear hm hbig hq hP ha n1 n2 n3 t1 t2 t3 hs k1 d1 sk1 sk2 sd1 sd2 sM1 sM2 sMQ sQ hsec hTT hNN hS hSl hS10 hDR hFF hRR hSH hAT hPK hws hfz hwm hnl hsd hwh
      go_enter Tryd.func5, Tryd.ntmps5
      go_wp2_with fail
      refine (works20_any _).mono ?_
      rintro e w1 ⟨rfl, hg⟩
      have HG1 := hidTrans hg HG0
      have hp1 := (bkGrown hg HB0).out.prule
      have HB1 := bkGrown hg HB0
      clear hg
      go_wp2_with fail
      refine (HM.out _ HG1.out).mono ?_
      rintro e w2 ⟨rfl, hg⟩
      have HG2 := hidTrans hg HG1
      have HB2 := bkGrown hg HB1
      have hp2 := HB2.out.prule
      have HMD := Lib.hid (model20_any p (.slice A n c) l (fun _ => True) w2 HMAY.out (HL.out.kept HG2.out) HN100.out)
      clear hg hp1 HM HB0 HB1
      go_wp2_with fail
      refine HMD.out.mono ?_
      rintro e w3 ⟨vW, vB, rfl, hW, hB, hg⟩
      have HG3 := hidTrans hg HG2
      have HB3 := bkGrown hg HB2
      obtain ⟨AW, nW, cW, rfl⟩ := hW.shape
      obtain ⟨AB, nB, cB, rfl⟩ := hB.shape
      obtain ⟨w4, hw4⟩ : ∃ y, y = w3.alloc (Obj.cells #[.slice AW nW cW, .slice AB nB cB] 59) := ⟨_, rfl⟩
      obtain ⟨Bm, hBm⟩ : ∃ y, y = w3.heap.size := ⟨_, rfl⟩
      have HGA : Hid (w3.grownBy w4 none) := Lib.hid (by rw [hw4]; exact World.grownBy_alloc _ _ none)
      have HBM : Hid (Bk w4 Bm 59 #[.slice AW nW cW, .slice AB nB cB]) := Lib.hid (by rw [hw4, hBm]; exact Bk.new _ _ _)
      have HB4 : Hid (Bk w4 w.heap.size 24 p.cells) := Lib.hid (HB3.out.grown HGA.out (by simp))
      have HG4 : Hid (w.grownBy w4 none) := Lib.hid (HG3.out.trans HGA.out)
      have HW4 := Lib.hid (hW.kept HGA.out)
      have HV4 := Lib.hid (hB.kept HGA.out)
      clear hg hW hB hp2 HMD
      go_upto_region 4 with (fail)
      rw [← hw4, ← hBm]
      clear hw4 hBm
      have HDG : Hid (w4.grownBy w4.drew none) := Lib.hid (grown_drewN' _ 1)
      have HXM : Hid (∀ W, w4.drew.grownBy W none → w.grownBy W none ∧ Bk W w.heap.size 24 p.cells ∧ Bk W Bm 59 #[.slice AW nW cW, .slice AB nB cB] ∧ Sl (encS encI) TT W (.slice AW nW cW) (whoW p l) ∧ Sl encI TT W (.slice AB nB cB) (whoB p l)) := Lib.hid (fun W hg => by
        have h := HDG.out.trans hg
        exact ⟨HG4.out.trans h, HB4.out.grown h (by simp), HBM.out.grown h (by simp), HW4.out.kept h, HV4.out.kept h⟩)
      have HLD : Hid (∀ vs W, (w4Lt w4.drew seed SH).C vs W → (∀ o, W.cell? ⟨w.heap.size, o, none⟩ = (#[.int .u64 p.P, .int .u64 p.Q, .int .u64 p.G, .int .u64 p.H, .int .i64 p.Nodes, .int .i64 p.N, .int .i64 p.T, .int .i64 p.K, .int .i64 p.D, .int .i64 p.R, .int .i64 p.M, .int .i64 p.X] : Array Value)[o]?) ∧ W.cell? ⟨Bm, 0, none⟩ = some (.slice AW nW cW) ∧ W.cell? ⟨Bm, 1, none⟩ = some (.slice AB nB cB)) := Lib.hid (fun vs W hC => by
        obtain ⟨_, h1, h2, _, _⟩ := HXM.out W hC.1
        exact ⟨h1.prule, by simpa using h2.cell 0, by simpa using h2.cell 1⟩)
      have HSEC : Hid (∀ W, w4.drew.grownBy W none → Calls Tryd.prog 24 #[p.v, .agg #[.slice AW nW cW, .slice AB nB cB]] W (Gives encU (fun g => W.heap.size ≤ g) W S)) := Lib.hid (fun W hg => by
        obtain ⟨_, _, _, h3, h4⟩ := HXM.out W hg
        obtain ⟨q1, q2, q3, q4, q5⟩ := HWL.out
        rw [← HSEC2.out]
        exact fsecrets_any p _ _ (whoW p l) (whoB p l) TT TT W HMAY.out HP.out h3 h4 q1 q2 q3 q4 q5)
      have HDM : Hid (∀ (gt : Nat) (W : World) (x : Value), w4.drew.grownBy W none → Sl encU TT W x S → Bk W gt 117 #[.int .u64 seed, .slice none 0 0, .int .i64 0] → Calls Tryd.prog 23 #[p.v, x, .pointer (some ⟨gt, 0, none⟩)] W fun e w' => ∃ vs vc, e = .returned (.tuple #[vs, vc, .int .i64 0]) ∧ Sl (encS encP) TT w' vs SH ∧ W.grownBy w' (some gt)) := Lib.hid (fun gt W x hg hx hb => by
        have hx2 := sl_apartU hx HS1.out hb (fun i a c e1 e2 => by
          match i, e1, e2 with
          | 0, _, e2 => simp at e2
          | 1, e1, _ => simp at e1
          | 2, _, e2 => simp at e2
          | k + 3, e1, _ => simp at e1)
        refine (dmodel_any p x S _ W (HTP.out gt) HP.out HMAY.out (HTB.out.kept (HXM.out W hg).1) hx2 (fun b hb => hb) HSL.out.1 0 T HTN.out.1 hb (by
          have h1 := HSL.out.2
          have h2 := HTN.out.2.2.2.1
          have : S.length * (2 * T + 1) ≤ 10 * 5 := Nat.mul_le_mul h1 (by omega)
          omega)).mono ?_
        rintro e w' ⟨vs, vc, rfl, k1, k2, k3, k4⟩
        refine ⟨vs, vc, rfl, ?_, k4⟩
        rw [HSHE.out, HFE.out, HRE.out, ← HTN.out.2.2.1]
        exact k1)
      refine wp_region_late (w4Lt w4.drew seed SH) [5, 6] 14 (by kernel_rfl) (by kernel_rfl) (by kernel_rfl) ⟨World.grownBy.refl _ none, trivial⟩ ?_
      -- op 0 (slot 35): load
      refine LateR.mono (Qv.eq (p.v)) [] (by kernel_rfl) (by rfl) rfl (fun vs w' hC => ?_) ?_
      · refine askl_do rfl fun K hK => ?_
        obtain ⟨q0, q1, q2⟩ := HLD.out vs w' hC
        go_simp
        exact hK _ _ rfl ⟨rfl, World.grownBy.refl _ none⟩
      -- op 1 (slot 36): load
      refine LateR.mono (Qv.eq (p.v)) [] (by kernel_rfl) (by rfl) rfl (fun vs w' hC => ?_) ?_
      · refine askl_do rfl fun K hK => ?_
        obtain ⟨q0, q1, q2⟩ := HLD.out vs w' hC
        go_simp
        exact hK _ _ rfl ⟨rfl, World.grownBy.refl _ none⟩
      -- op 2 (slot 37): load
      refine LateR.mono (Qv.eq (.agg #[.slice AW nW cW, .slice AB nB cB])) [] (by kernel_rfl) (by rfl) rfl (fun vs w' hC => ?_) ?_
      · refine askl_do rfl fun K hK => ?_
        obtain ⟨q0, q1, q2⟩ := HLD.out vs w' hC
        go_simp
        exact hK _ _ rfl ⟨rfl, World.grownBy.refl _ none⟩
      -- op 3 (slot 38): call
      refine LateR.mono (w4S S) [(1, 36), (2, 37)] (by kernel_rfl) (by rfl) rfl (fun vs w' hC => ?_) ?_
      · rintro _ rfl
        rintro _ rfl
        refine askl_do rfl fun K hK => ?_
        go_simp
        refine (HSEC.out w' hC.1).mono ?_
        rintro e w3 ⟨v3, rfl, hs3, hg3⟩
        exact hK _ _ rfl ⟨fun _ => hs3.more fun _ _ _ => trivial, hg3⟩
      -- op 4 (slot 39): move
      refine LateR.mono (Qv.eq (.int .u64 seed)) [] (by kernel_rfl) (by rfl) rfl (fun vs w' hC => ?_) ?_
      · refine askl_do rfl fun K hK => ?_
        go_simp
        exact hK _ _ rfl ⟨rfl, World.grownBy.refl _ none⟩
      -- op 5 (slot 40): call
      refine LateR.turn 0 [(4, 39)] (by kernel_rfl) rfl (fun vs w' hl hC => ?_) ?_
      · rintro _ rfl
        refine askl_do rfl fun K hK => ?_
        obtain rfl : vs = [] := List.eq_nil_of_length_eq_zero hl
        go_simp
        refine (new20_any seed w').mono ?_
        rintro e w3 ⟨rfl, rfl⟩
        exact hK _ _ rfl ⟨World.grownBy_alloc w' _ none, hC.1.trans (World.grownBy_alloc w' _ none), _, rfl, hC.1.size, Bk.new _ _ _⟩
      -- op 6 (slot 41): call
      refine LateR.turn 1 [(0, 35), (3, 38), (5, 40)] (by kernel_rfl) rfl (fun vs w' hl hC => ?_) ?_
      · rintro _ rfl
        intro x38 h38
        have h38 : vs.length ≤ 1 → Sl encU TT w' x38 S := h38
        intro x40 h40
        refine askl_do rfl fun K hK => ?_
        obtain ⟨u, rfl⟩ : ∃ u, vs = [u] := List.length_eq_one_iff.1 hl
        obtain ⟨g1, gt, rfl, g2, g3⟩ := hC
        obtain rfl : x40 = .pointer (some ⟨gt, 0, none⟩) := by
          have h : some (Value.pointer (some ⟨gt, 0, none⟩)) = some x40 := h40
          injection h with h
          exact h.symm
        have hs := h38 (Nat.le_refl 1)
        go_simp
        refine (HDM.out gt w' x38 g1 hs g3).mono ?_
        rintro e w3 ⟨vs', vc, rfl, k1, k4⟩
        exact hK _ _ rfl ⟨trivial, grown_up g1 k4 (fun r e => by injection e with e; omega), vs', vc, rfl, k1⟩
      -- op 7 (slot 34): move
      refine LateR.mono (w4X) [(6, 41)] (by kernel_rfl) (by rfl) rfl (fun vs w' hC => ?_) ?_
      · intro x41 h41
        refine askl_do rfl fun K hK => ?_
        go_simp
        exact hK _ _ rfl ⟨h41, World.grownBy.refl _ none⟩
      -- op 8 (slot 42): extract
      refine LateR.mono (w4E) [(7, 34)] (by kernel_rfl) (by rfl) rfl (fun vs w' hC => ?_) ?_
      · intro x34 h34
        have h34 : vs[1]? = some x34 := h34
        refine askl_do rfl fun K hK => ?_
        obtain ⟨vs', vc, rfl⟩ := w4_at hC h34
        go_simp
        exact hK _ _ rfl ⟨⟨vc, h34⟩, World.grownBy.refl _ none⟩
      -- op 9 (slot 43): extract
      refine LateR.mono (Qv.any) [(7, 34)] (by kernel_rfl) (by rfl) rfl (fun vs w' hC => ?_) ?_
      · intro x34 h34
        have h34 : vs[1]? = some x34 := h34
        refine askl_do rfl fun K hK => ?_
        obtain ⟨vs', vc, rfl⟩ := w4_at hC h34
        go_simp
        exact hK _ _ rfl ⟨trivial, World.grownBy.refl _ none⟩
      -- op 10 (slot 44): extract
      refine LateR.mono (Qv.eq (.int .i64 0)) [(7, 34)] (by kernel_rfl) (by rfl) rfl (fun vs w' hC => ?_) ?_
      · intro x34 h34
        have h34 : vs[1]? = some x34 := h34
        refine askl_do rfl fun K hK => ?_
        obtain ⟨vs', vc, rfl⟩ := w4_at hC h34
        go_simp
        exact hK _ _ rfl ⟨rfl, World.grownBy.refl _ none⟩
      -- op 11 (slot 10): assign
      refine LateR.mono (w4E) [(8, 42)] (by kernel_rfl) (by rfl) rfl (fun vs w' hC => ?_) ?_
      · intro x42 h42
        have h42 : ∃ vc, vs[1]? = some (.tuple #[x42, vc, .int .i64 0]) := h42
        refine askl_do rfl fun K hK => ?_
        go_simp
        exact hK _ _ rfl ⟨h42, World.grownBy.refl _ none⟩
      -- op 12 (slot 11): assign
      refine LateR.mono (Qv.any) [(9, 43)] (by kernel_rfl) (by rfl) rfl (fun vs w' hC => ?_) ?_
      · intro x43 h43
        have h43 : True := h43
        refine askl_do rfl fun K hK => ?_
        go_simp
        exact hK _ _ rfl ⟨trivial, World.grownBy.refl _ none⟩
      -- op 13 (slot 12): assign
      refine LateR.mono (Qv.eq (.int .i64 0)) [(10, 44)] (by kernel_rfl) (by rfl) rfl (fun vs w' hC => ?_) ?_
      · rintro _ rfl
        refine askl_do rfl fun K hK => ?_
        go_simp
        exact hK _ _ rfl ⟨rfl, World.grownBy.refl _ none⟩
      intro vs w5 hvl hC5
      obtain ⟨u, u2, rfl⟩ : ∃ u u2, vs = [u, u2] := by
        match vs, hvl with
        | [u, u2], _ => exact ⟨u, u2, rfl⟩
      intro y0 k0 y1 k1 y2 k2 y3 k3 y4 k4 y5 k5 y6 k6 y7 k7 y8 k8 y9 k9 y10 k10 y11 k11 y12 k12 y13 k13
      show wpList Tryd.prog _ _ _ _ w5
      simp only [Act.put, List.setIfInBounds_toArray, List.set_cons_zero, List.set_cons_succ]
      obtain ⟨g5, va, vb, eab, hSH5⟩ := hC5
      obtain ⟨vc', hv⟩ : ∃ vc, some u2 = some (.tuple #[y11, vc, .int .i64 0]) := k11
      have e11 : y11 = va := by
        injection hv with hv
        rw [eab] at hv
        injection hv with hv
        injection hv with hv
        injection hv with hv _
        exact hv.symm
      have e13 : y13 = .int .i64 0 := k13
      subst e11 e13
      obtain ⟨As, cs, es, _, _⟩ := hSH5.form
      rw [HSHL.out] at es
      subst es
      have HSH5 := Lib.hid hSH5
      obtain ⟨x1, x2, x3, x4, x5⟩ := HXM.out w5 g5
      have HG5 := Lib.hid x1
      have HB5 := Lib.hid x2
      have HM5 := Lib.hid x3
      have HW5 := Lib.hid x4
      have HV5 := Lib.hid x5
      have hp5 := HB5.out.prule
      clear hSH5 x1 x2 x3 x4 x5 g5 k0 k1 k2 k3 k4 k5 k6 k7 k8 k9 k10 k12 k13 hv eab HLD HSEC HDM HXM
      have HSM := Lib.hid (fun W => some_any (T + 1) p.N which W (by have := HTN.out; omega) (by have := HTN.out; omega) HWH.out)
      rw [← HAE.out, show (((T + 1 : Nat) : Int)) = p.T + 1 by have := HTN.out.1; omega] at HSM
      have hw1 : wrap64 (p.T + 1) = p.T + 1 := IntWalk.wrap64_in _ ⟨by omega, by omega⟩
      go_wp2_with fail
      refine (HSM.out _).mono ?_
      rintro e w6 ⟨v53, rfl, h53, hg⟩
      have HG6 := hidTrans hg HG5
      have HB6 := bkGrown hg HB5
      have HM6 := bkGrown hg HM5
      have HW6 := Lib.hid (HW5.out.kept hg)
      have HV6 := Lib.hid (HV5.out.kept hg)
      have HSH6 := Lib.hid (HSH5.out.kept hg)
      have HAT6 := Lib.hid h53
      obtain ⟨Aa, na, ca, rfl⟩ := h53.shape
      clear hg h53 hp5
      have HD6 : Hid (w6.grownBy w6.drew none) := Lib.hid (grown_drewN' _ 1)
      have hp6 : ∀ o, w6.drew.cell? ⟨w.heap.size, o, none⟩ = (#[.int .u64 p.P, .int .u64 p.Q, .int .u64 p.G, .int .u64 p.H, .int .i64 p.Nodes, .int .i64 p.N, .int .i64 p.T, .int .i64 p.K, .int .i64 p.D, .int .i64 p.R, .int .i64 p.M, .int .i64 p.X] : Array Value)[o]? := HB6.out.prule
      have HPC : Hid (∀ W, w6.grownBy W none → Calls Tryd.prog 26 #[.slice As N cs, .slice Aa na ca] W (Gives (encS encP) TT W PK)) := Lib.hid (fun W hg => by
        rw [← HPA.out]
        exact picked_any _ _ SH AT TT _ W (HSH6.out.kept hg) (HAT6.out.kept hg) (by rw [HSHL.out]; exact HATI.out) (by have := HATL.out; have := HTN.out; omega))
      have HSUM : Hid (∀ W x, w6.grownBy W none → Sl (encS encP) TT W x PK → Calls Tryd.prog 12 #[p.v, .slice Aa na ca, x] W (GivesE encP (fun g => W.heap.size ≤ g) W (sumL p AT PK) 0)) := Lib.hid (fun W x hg hx => by
        rw [← HWS.out.1]
        exact sum_any p _ AT x PK _ TT W HP.out (HAT6.out.kept hg) hx (by have := HATL.out; have := HTN.out; omega) (by rw [← HPA.out, List.length_map]; have := HATL.out; have := HTN.out; omega))
      go_upto_region 8 with (fail)
      go_region_held3 (fun w' => ∀ o, w'.cell? ⟨w.heap.size, o, none⟩ = (#[.int .u64 p.P, .int .u64 p.Q, .int .u64 p.G, .int .u64 p.H, .int .i64 p.Nodes, .int .i64 p.N, .int .i64 p.T, .int .i64 p.K, .int .i64 p.D, .int .i64 p.R, .int .i64 p.M, .int .i64 p.X] : Array Value)[o]?) (first | assumption | go_keep)
        (first
        | (go_at_call 26; (with_reducible refine (HPC.out _ HD6.out).mono ?_); rintro e w7 ⟨v59, rfl, h59, hg⟩; have HG7 : Hid (w6.grownBy w7 none) := Lib.hid (HD6.out.trans hg); have HS7 := Lib.hid h59; have hp7 := (HB6.out.grown HG7.out (by simp)).prule; clear hg h59)
        | (go_at_call 12; (with_reducible refine (HSUM.out _ _ HG7.out HS7.out).mono ?_); rintro e w8 ⟨v54, rfl, h54, hg⟩; have HG8 : Hid (w6.grownBy w8 none) := Lib.hid (HG7.out.trans hg); have HS8 := Lib.hid h54; have hp8 := (HB6.out.grown HG8.out (by simp)).prule; clear hg h54))
      have HX8 : Hid (Sl encP TT w8 v54 (sumL p AT PK)) := Lib.hid (HS8.out.more fun _ _ _ => trivial)
      obtain ⟨Ax, nx, cx, ex⟩ := HX8.out.shape
      subst ex
      have HG8w : Hid (w.grownBy w8 none) := Lib.hid (HG6.out.trans HG8.out)
      have HB8 : Hid (Bk w8 w.heap.size 24 p.cells) := Lib.hid (HB6.out.grown HG8.out (by simp))
      have HM8 : Hid (Bk w8 Bm 59 #[.slice AW nW cW, .slice AB nB cB]) := Lib.hid (HM6.out.grown HG8.out (by simp))
      have HW8 := Lib.hid (HW6.out.kept HG8.out)
      have HV8 := Lib.hid (HV6.out.kept HG8.out)
      have HD8 : Hid (w8.grownBy w8.drew none) := Lib.hid (grown_drewN' _ 1)
      have HLD : Hid (∀ vs W, (w9Lt w8.drew (whoW p l) (whoB p l)).C vs W → ∀ o, W.cell? ⟨w.heap.size, o, none⟩ = (#[.int .u64 p.P, .int .u64 p.Q, .int .u64 p.G, .int .u64 p.H, .int .i64 p.Nodes, .int .i64 p.N, .int .i64 p.T, .int .i64 p.K, .int .i64 p.D, .int .i64 p.R, .int .i64 p.M, .int .i64 p.X] : Array Value)[o]?) := Lib.hid (fun vs W hC => (HB8.out.grown (HD8.out.trans hC.1) (by simp)).prule)
      have HVA : Hid (∀ W, w8.drew.grownBy W none → Calls Tryd.prog 28 #[.slice Ax nx cx] W (Gives encU (fun g => W.heap.size ≤ g) W S)) := Lib.hid (fun W hg => by
        have := values_any _ (sumL p AT PK) TT W (HX8.out.kept (HD8.out.trans hg)) (by
          have h := congrArg List.length HWS.out.2
          rw [List.length_map] at h
          have := HSL.out.2
          omega)
        rw [HWS.out.2] at this
        exact this)
      have HMO : Hid (∀ W x, w8.drew.grownBy W none → Sl encU TT W x S → Calls Tryd.prog 27 #[p.v, x] W (GivesM (fun g => W.heap.size ≤ g) W (whoW p l) (whoB p l) 0)) := Lib.hid (fun W x hg hx => by
        have := smodel_any p x S TT W HP.out hx (by have := HSL.out.2; omega)
        rw [HWM.out.1, HWM.out.2.1, HWM.out.2.2] at this
        exact this)
      clear hp6 hp7 hp8 HPC HSUM
      go_upto_region 9 with (fail)
      refine wp_region_late (w9Lt w8.drew (whoW p l) (whoB p l)) [7, 8] 10 (by kernel_rfl) (by kernel_rfl) (by kernel_rfl) ⟨World.grownBy.refl _ none, trivial⟩ ?_
      -- op 0 (slot 64): load
      refine LateR.mono (Qv.eq (p.v)) [] (by kernel_rfl) (by rfl) rfl (fun vs w' hC => ?_) ?_
      · refine askl_do rfl fun K hK => ?_
        have q0 := HLD.out vs w' hC
        go_simp
        exact hK _ _ rfl ⟨rfl, World.grownBy.refl _ none⟩
      -- op 1 (slot 65): move
      refine LateR.mono (Qv.eq (.slice Ax nx cx)) [] (by kernel_rfl) (by rfl) rfl (fun vs w' hC => ?_) ?_
      · refine askl_do rfl fun K hK => ?_
        go_simp
        exact hK _ _ rfl ⟨rfl, World.grownBy.refl _ none⟩
      -- op 2 (slot 66): call
      refine LateR.mono (w9S S HS1.out) [(1, 65)] (by kernel_rfl) (by rfl) rfl (fun vs w' hC => ?_) ?_
      · rintro _ rfl
        refine askl_do rfl fun K hK => ?_
        go_simp
        refine (HVA.out w' hC.1).mono ?_
        rintro e w3 ⟨v3, rfl, hs3, hg3⟩
        exact hK _ _ rfl ⟨hs3.more fun _ _ _ => trivial, hg3⟩
      -- op 3 (slot 67): call
      refine LateR.mono (w9T (whoW p l) (whoB p l)) [(0, 64), (2, 66)] (by kernel_rfl) (by rfl) rfl (fun vs w' hC => ?_) ?_
      · rintro _ rfl
        intro x66 h66
        have h66 : Sl encU TT w' x66 S := h66
        refine askl_do rfl fun K hK => ?_
        go_simp
        refine (HMO.out w' x66 hC.1 h66).mono ?_
        rintro e w3 ⟨v1, v2, rfl, k1, k2, _, hg3⟩
        exact hK _ _ rfl ⟨⟨v1, v2, rfl, fun _ => ⟨(Sl.plain k1).more fun _ _ _ => trivial, k2.more fun _ _ _ => trivial⟩⟩, hg3⟩
      -- op 4 (slot 63): move
      refine LateR.mono (w9T (whoW p l) (whoB p l)) [(3, 67)] (by kernel_rfl) (by rfl) rfl (fun vs w' hC => ?_) ?_
      · intro x67 h67
        have h67 : ∃ v1 v2, x67 = .tuple #[.agg #[v1, v2], .int .i64 0] ∧ (vs.length ≤ 1 → Sl (encS encI) TT w' v1 (whoW p l) ∧ Sl encI TT w' v2 (whoB p l)) := h67
        refine askl_do rfl fun K hK => ?_
        obtain ⟨v1, v2, rfl, hvv⟩ := h67
        go_simp
        exact hK _ _ rfl ⟨⟨v1, v2, rfl, hvv⟩, World.grownBy.refl _ none⟩
      -- op 5 (slot 68): extract
      refine LateR.mono (w9A (whoW p l) (whoB p l)) [(4, 63)] (by kernel_rfl) (by rfl) rfl (fun vs w' hC => ?_) ?_
      · intro x63 h63
        have h63 : ∃ v1 v2, x63 = .tuple #[.agg #[v1, v2], .int .i64 0] ∧ (vs.length ≤ 1 → Sl (encS encI) TT w' v1 (whoW p l) ∧ Sl encI TT w' v2 (whoB p l)) := h63
        refine askl_do rfl fun K hK => ?_
        obtain ⟨v1, v2, rfl, hvv⟩ := h63
        go_simp
        exact hK _ _ rfl ⟨⟨v1, v2, rfl, hvv⟩, World.grownBy.refl _ none⟩
      -- op 6 (slot 69): extract
      refine LateR.mono (Qv.eq (.int .i64 0)) [(4, 63)] (by kernel_rfl) (by rfl) rfl (fun vs w' hC => ?_) ?_
      · intro x63 h63
        have h63 : ∃ v1 v2, x63 = .tuple #[.agg #[v1, v2], .int .i64 0] ∧ (vs.length ≤ 1 → Sl (encS encI) TT w' v1 (whoW p l) ∧ Sl encI TT w' v2 (whoB p l)) := h63
        refine askl_do rfl fun K hK => ?_
        obtain ⟨v1, v2, rfl, hvv⟩ := h63
        go_simp
        exact hK _ _ rfl ⟨rfl, World.grownBy.refl _ none⟩
      -- op 7 (slot 16): alloc
      refine LateR.turn 0 [] (by kernel_rfl) rfl (fun vs w' hl hC => ?_) ?_
      · refine askl_do rfl fun K hK => ?_
        obtain rfl : vs = [] := List.eq_nil_of_length_eq_zero hl
        go_simp
        exact hK _ _ rfl ⟨World.grownBy_alloc w' _ none, hC.1.trans (World.grownBy_alloc w' _ none), _, rfl, hC.1.size, Bk.new _ _ _⟩
      -- op 8 (slot None): store
      refine LateR.turn 1 [(7, 16), (5, 68)] (by kernel_rfl) rfl (fun vs w' hl hC => ?_) ?_
      · intro x16 h16
        intro x68 h68
        have h68 : ∃ v1 v2, x68 = .agg #[v1, v2] ∧ (vs.length ≤ 1 → Sl (encS encI) TT w' v1 (whoW p l) ∧ Sl encI TT w' v2 (whoB p l)) := h68
        refine askl_do rfl fun K hK => ?_
        obtain ⟨u, rfl⟩ : ∃ u, vs = [u] := List.length_eq_one_iff.1 hl
        obtain ⟨g1, gb, rfl, g2, g3⟩ := hC
        obtain rfl : x16 = .pointer (some ⟨gb, 0, none⟩) := by
          have h : some (Value.pointer (some ⟨gb, 0, none⟩)) = some x16 := h16
          injection h with h
          exact h.symm
        obtain ⟨v1, v2, rfl, hvv⟩ := h68
        obtain ⟨k1, k2⟩ := hvv (Nat.le_refl 1)
        have c0 := g3.cell 0
        have c1 := g3.cell 1
        have ff := g3.free
        simp at c0 c1
        have hres := w9_set HWR.out g1 g2 g3 k1 k2
        obtain ⟨A1, n1, c1, rfl⟩ := k1.shape
        obtain ⟨A2, n2, c2, rfl⟩ := k2.shape
        go_simp
        exact hK _ _ rfl ⟨⟨gb, g3, hres.1⟩, hres.2.1, gb, _, _, rfl, hres.2.2⟩
      -- op 9 (slot 17): assign
      refine LateR.mono (Qv.eq (.int .i64 0)) [(6, 69)] (by kernel_rfl) (by rfl) rfl (fun vs w' hC => ?_) ?_
      · rintro _ rfl
        refine askl_do rfl fun K hK => ?_
        go_simp
        exact hK _ _ rfl ⟨rfl, World.grownBy.refl _ none⟩
      intro vs w9 hvl hC9
      obtain ⟨u, u2, rfl⟩ : ∃ u u2, vs = [u, u2] := by
        match vs, hvl with
        | [u, u2], _ => exact ⟨u, u2, rfl⟩
      intro y0 k0 y1 k1 y2 k2 y3 k3 y4 k4 y5 k5 y6 k6 y7 k7 y8 k8 y9 k9
      show wpList Tryd.prog _ _ _ _ w9
      simp only [Act.put, List.setIfInBounds_toArray, List.set_cons_zero, List.set_cons_succ]
      obtain ⟨g9, b9, v1, v2, eu, hb9, hv1, hv2⟩ := hC9
      have e7 : y7 = u := by have : some u = some y7 := k7; injection this with this; exact this.symm
      have e9 : y9 = .int .i64 0 := k9
      subst e7 e9 eu
      obtain ⟨A1, n1, c1, e1⟩ := hv1.shape
      obtain ⟨A2, n2, c2, e2⟩ := hv2.shape
      subst e1 e2
      have hg9 := HD8.out.trans g9
      have HG9 : Hid (w.grownBy w9 none) := Lib.hid (HG8w.out.trans hg9)
      have m0 := (HM8.out.grown hg9 (by simp)).cell 0
      have m1 := (HM8.out.grown hg9 (by simp)).cell 1
      have x0 := hb9.cell 0
      have x1 := hb9.cell 1
      simp at m0 m1 x0 x1
      have HME := Lib.hid (models_eq _ _ _ _ (whoW p l) (whoB p l) TT TT TT TT w9 hv1 hv2 (HW8.out.kept hg9) (HV8.out.kept hg9))
      clear hb9 hv1 hv2 g9 hg9 k0 k1 k2 k3 k4 k5 k6 k7 k8 k9 HLD HVA HMO
      go_wp2_with fail
      refine HME.out.mono ?_
      rintro e w10 ⟨rfl, hg⟩
      have HG10 := hidTrans hg HG9
      clear hg
      go_wp2
      go_ret
      exact ⟨rfl, HG10.out⟩
end Go.Proofs.YtmjdpmfcbeaecaaDoor

namespace Go.Proofs.YtmjdpmfcbeaecaaDoor
open Go.ChangeShapes Go.WideShapes Go.RowKit

set_option maxRecDepth 100000 in
theorem open_params {H : Type} {enc : TypeId × Value → H} {w : World} {base : Nat} {spare : Nat → Bool} {held : Bool} {r : Reach} {b0 : Nat} {v : Value} {d : DataW H} {pl : List MemPlace}
    (hv : Value.okWide Tryd.prog w r b0 24 v) (h : DataW.Trod enc Tryd.prog w base spare held 24 v d pl) : ∃ p : Par, v = p.v ∧ p.ok := by
  obtain ⟨cs, rfl, hsz⟩ := okWide_struct Tryd.underlying24 hv
  obtain ⟨l⟩ := cs
  have hc : Tryd.prog.cellsOf 24 = 12 := by kernel_rfl
  have cu : Tryd.prog.cellsOf 22 = 1 := by kernel_rfl
  have ci : Tryd.prog.cellsOf 3 = 1 := by kernel_rfl
  have cj : Tryd.prog.cellsOf 2 = 1 := by kernel_rfl
  match l, hsz.trans hc with
  | [c0, c1, c2, c3, c4, c5, c6, c7, c8, c9, c10, c11], _ =>
    obtain ⟨fuel, hf⟩ := h
    obtain ⟨xs, n, _, _, _, hlen, hg⟩ := DataW.trod_struct Tryd.underlying24 hf
    match xs, hlen with
    | [y0, y1, y2, y3, y4, y5, y6, y7, y8, y9, y10, y11], _ =>
      have g0 := hg 0 _ rfl
      have g1 := hg 1 _ rfl
      have g2 := hg 2 _ rfl
      have g3 := hg 3 _ rfl
      have g4 := hg 4 _ rfl
      have g5 := hg 5 _ rfl
      have g6 := hg 6 _ rfl
      have g7 := hg 7 _ rfl
      have g8 := hg 8 _ rfl
      have g9 := hg 9 _ rfl
      have g10 := hg 10 _ rfl
      have g11 := hg 11 _ rfl
      simp [Value.cells, cu, ci, cj] at g0 g1 g2 g3 g4 g5 g6 g7 g8 g9 g10 g11
      obtain ⟨a0, e0, _, w0⟩ := DataW.trod_int Tryd.underlying22 g0
      simp at e0
      obtain ⟨a1, e1, _, w1⟩ := DataW.trod_int Tryd.underlying22 g1
      simp at e1
      obtain ⟨a2, e2, _, w2⟩ := DataW.trod_int Tryd.underlying22 g2
      simp at e2
      obtain ⟨a3, e3, _, w3⟩ := DataW.trod_int Tryd.underlying22 g3
      simp at e3
      obtain ⟨a4, e4, _, w4⟩ := DataW.trod_int Tryd.underlying3 g4
      simp at e4
      obtain ⟨a5, e5, _, w5⟩ := DataW.trod_int Tryd.underlying3 g5
      simp at e5
      obtain ⟨a6, e6, _, w6⟩ := DataW.trod_int Tryd.underlying3 g6
      simp at e6
      obtain ⟨a7, e7, _, w7⟩ := DataW.trod_int Tryd.underlying3 g7
      simp at e7
      obtain ⟨a8, e8, _, w8⟩ := DataW.trod_int Tryd.underlying3 g8
      simp at e8
      obtain ⟨a9, e9, _, w9⟩ := DataW.trod_int Tryd.underlying3 g9
      simp at e9
      obtain ⟨a10, e10, _, w10⟩ := DataW.trod_int Tryd.underlying2 g10
      simp at e10
      obtain ⟨a11, e11, _, w11⟩ := DataW.trod_int Tryd.underlying2 g11
      simp at e11
      subst e0 e1 e2 e3 e4 e5 e6 e7 e8 e9 e10 e11
      exact ⟨⟨a0, a1, a2, a3, a4, a5, a6, a7, a8, a9, a10, a11⟩, rfl, ⟨u64_wf w0, u64_wf w1, u64_wf w2, u64_wf w3, i64_wf w4, i64_wf w5, i64_wf w6, i64_wf w7, i64_wf w8, i64_wf w9, i64_wf w10, i64_wf w11⟩⟩
set_option maxRecDepth 100000 in
theorem open_pair {H : Type} {enc : TypeId × Value → H} {w : World} {base : Nat} {spare : Nat → Bool} {held : Bool} {r : Reach} {b0 : Nat} {v : Value} {d : DataW H} {pl : List MemPlace}
    (hv : Value.okWide Tryd.prog w r b0 36 v) (h : DataW.Trod enc Tryd.prog w base spare held 36 v d pl) : ∃ x : Int × Int, v = .agg #[.int .u64 x.1, .int .u64 x.2] ∧ U64 x.1 ∧ U64 x.2 := by
  obtain ⟨cs, rfl, hsz⟩ := okWide_struct Tryd.underlying36 hv
  obtain ⟨l⟩ := cs
  have hc : Tryd.prog.cellsOf 36 = 2 := by kernel_rfl
  have cu : Tryd.prog.cellsOf 22 = 1 := by kernel_rfl
  match l, hsz.trans hc with
  | [c0, c1], _ =>
    obtain ⟨fuel, hf⟩ := h
    obtain ⟨xs, n, _, _, _, hlen, hg⟩ := DataW.trod_struct Tryd.underlying36 hf
    match xs, hlen with
    | [y0, y1], _ =>
      have g0 := hg 0 _ rfl
      have g1 := hg 1 _ rfl
      simp [Value.cells, cu] at g0 g1
      obtain ⟨a0, e0, _, w0⟩ := DataW.trod_int Tryd.underlying22 g0
      obtain ⟨a1, e1, _, w1⟩ := DataW.trod_int Tryd.underlying22 g1
      simp at e0 e1
      subst e0 e1
      exact ⟨(a0, a1), rfl, u64_wf w0, u64_wf w1⟩
theorem cells_u64 : Tryd.prog.cellsOf 22 = 1 := by kernel_rfl
theorem reads_nums : Reads (encS encU) 37 := reads_sl Tryd.underlying37 (reads_u64 Tryd.underlying22) cells_u64
theorem cells_pair : Tryd.prog.cellsOf 36 = 2 := by kernel_rfl
theorem reads_pairs : Reads (encS encP) 25 := reads_sl Tryd.underlying25 (reads_pair Tryd.underlying36 ⟨rfl, rfl⟩ ⟨rfl, rfl⟩ Tryd.underlying22 cells_pair cells_u64) cells_pair
theorem cells_nums : Tryd.prog.cellsOf 37 = 1 := by kernel_rfl
theorem reads_rows : Reads (encS (encS encU)) 34 := reads_sl Tryd.underlying34 reads_nums cells_nums
theorem cells_rows : Tryd.prog.cellsOf 34 = 1 := by kernel_rfl
theorem reads_mat : Reads (encS (encS (encS encU))) 89 := reads_sl Tryd.underlying89 reads_rows cells_rows
theorem cells_pairs : Tryd.prog.cellsOf 25 = 1 := by kernel_rfl
theorem reads_prows : Reads (encS (encS encP)) 32 := reads_sl Tryd.underlying32 reads_pairs cells_pairs
theorem cells_int : Tryd.prog.cellsOf 3 = 1 := by kernel_rfl
theorem reads_ints : Reads (encS encI) 28 := reads_sl Tryd.underlying28 (reads_i64 Tryd.underlying3) cells_int
end Go.Proofs.YtmjdpmfcbeaecaaDoor

namespace Go.Proofs.YtmjdpmfcbeaecaaDoor
open Go Go.RowKit
theorem cells_i64' : Tryd.prog.cellsOf 2 = 1 := by kernel_rfl
theorem reads_i64s : Reads (encS encI) 56 := reads_sl Tryd.underlying56 (reads_i64 Tryd.underlying2) cells_i64'
end Go.Proofs.YtmjdpmfcbeaecaaDoor

namespace Go.Proofs.YtmjdpmfcbeaecaaDoor
open Go.RowKit
theorem grown_drewN (w : World) : ∀ n, Grown w (w.drewN n)
  | 0 => Grown.refl w
  | n + 1 => (grown_drewN w n).drew
def tabL : List Int := [0, 1, 56, 2, 57, 49, 28, 3, 61, 58, 42, 50, 38, 29, 17, 4, 62, 47, 59, 36, 45, 43, 51, 22, 53, 39, 33, 30, 24, 18, 12, 5, 63, 55, 48, 27, 60, 41, 37, 16, 46, 35, 44, 21, 52, 32, 23, 11, 54, 26, 40, 15, 34, 20, 31, 10, 25, 14, 19, 9, 13, 8, 7, 6]
theorem tabZ' : ∀ j, j < 64 → tabL.getD j 0 = ((Lib.deBruijn64tab.getD j 0 : Nat) : Int) := by decide
theorem tabZ (j : Nat) (hj : j < Lib.deBruijn64tab.length) : tabL.getD j 0 = ((Lib.deBruijn64tab.getD j 0 : Nat) : Int) := tabZ' j hj
/-- What an initialiser lays into a variable's block. -/
def layCells (cs : Array Value) : Obj → Obj
  | .cells _ t f => .cells cs t f
  | o => o
end Go.Proofs.YtmjdpmfcbeaecaaDoor

namespace Go.Proofs.YtmjdpmfcbeaecaaDoor.shareWhole
open Go.ChangeShapes Go.WideShapes Go.ChangeAt Go.RowKit
set_option linter.unusedVariables false
theorem own : ownKnob Tryd.prog.godebug = none := by kernel_rfl
theorem gA : Tryd.prog.globalNamed "math/bits.deBruijn64tab" = some 1 := by kernel_rfl
theorem gB : Tryd.prog.globalNamed "consistory/mod.tried" = some 0 := by kernel_rfl
theorem tA : (Tryd.prog.globals[1]?).map (·.type) = some 138 := by kernel_rfl
theorem tB : (Tryd.prog.globals[0]?).map (·.type) = some 123 := by kernel_rfl
theorem cA : Tryd.prog.cellsOf 138 = 64 := by kernel_rfl
theorem cB : Tryd.prog.cellsOf 123 = 12 := by kernel_rfl
theorem c8 : Tryd.prog.cellsOf 5 = 1 := by kernel_rfl
theorem c64 : Tryd.prog.cellsOf 22 = 1 := by kernel_rfl
theorem tabs {W : World} (h : laidMetH Tryd.prog Rows.shareWholeRow.laid W) : TabsAt W := by
  have h1 : laidMet Tryd.prog Rows.shareWholeRow.laid W := h
  have a := Lib.tabIs_of_head (zs := [0, 1, 56, 2, 57, 49, 28, 3, 61, 58, 42, 50, 38, 29, 17, 4, 62, 47, 59, 36, 45, 43, 51, 22, 53, 39, 33, 30, 24, 18, 12, 5, 63, 55, 48, 27, 60, 41, 37, 16, 46, 35, 44, 21, 52, 32, 23, 11, 54, 26, 40, 15, 34, 20, 31, 10, 25, 14, 19, 9, 13, 8, 7, 6]) gA tA Tryd.underlying138 Tryd.underlying5 c8 cA h1
  have b := Lib.tabIs_of_head (rest := []) (zs := triedL) gB tB Tryd.underlying123 Tryd.underlying22 c64 cB (laidMet.tail h1)
  exact ⟨fun j hj => by rw [a.cell gA j hj]; exact congrArg (fun z => some (Value.int .u8 z)) (tabZ j hj), fun j hj => b.cell gB j hj⟩
theorem walk (p0 : Par) (v1 : Value) (l1 : List Int) (a2 : Int) (a3 : Int) (w : World) (w0 : p0.ok) (w1 : Sl encI (fun _ => True) w v1 l1) (w2 : (Lit.int .u64 a2).wf = true) (w3 : (Lit.int .i64 a3).wf = true) (hT : TabsAt w) :
    Calls Tryd.prog 5 #[p0.v, v1, .int .u64 a2, .int .i64 a3] w fun e w' => e = .returned (.bool true) ∧ Below w.heap.size w w' :=
  (swhole_any p0 v1 l1 a2 a3 w w0 w1 (u64_wf w2) (i64_wf w3) hT).mono fun _ _ ⟨he, hg⟩ => ⟨he, below_grown hg⟩
theorem laidOut : laidOutB Tryd.prog = true := by kernel_rfl
set_option maxRecDepth 100000 in
theorem contract (H : Type) (enc : TypeId × Value → H) (W : World) (base : Nat) (args : Array Value) (ds gs : List (DataW H)) (before : List MemPlace)
    (hval : ∀ (j : Nat) t v, Tryd.f5.params[j]? = some t → args[j]? = some v → Value.okWide Tryd.prog W .any base t v)
    (hW : DataW.Whole enc Tryd.prog Tryd.f5.params.toList Rows.shareWholeSpec.vars false W args.toList ds gs before) (hL : laidMetH Tryd.prog Rows.shareWholeRow.laid W) :
    Calls Tryd.prog 5 args W fun e W' => ∃ v, e = .returned v ∧ Rows.shareWholeSpec.post enc Tryd.prog Tryd.f5 false true false false W args v W' := by
  have hW' := hW
  obtain ⟨p, q, hA0, hV, rfl, hfz, hnd⟩ := hW
  have hA : DataW.TrodAll enc Tryd.prog W 0 (fun _ => true) true Tryd.f5.params.toList args.toList ds p := hA0
  rw [Tryd.params5] at hA hval
  obtain ⟨v0, vs0, d0, ds0, p0, q0, hargs, rfl, rfl, h0, r0⟩ := trodAll_cons hA
  obtain ⟨v1, vs1, d1, ds1, p1, q1, rfl, rfl, rfl, h1, r1⟩ := trodAll_cons r0
  obtain ⟨v2, vs2, d2, ds2, p2, q2, rfl, rfl, rfl, h2, r2⟩ := trodAll_cons r1
  obtain ⟨v3, vs3, d3, ds3, p3, q3, rfl, rfl, rfl, h3, r3⟩ := trodAll_cons r2
  obtain ⟨rfl, rfl, rfl⟩ := trodAll_nil r3
  obtain rfl : args = #[v0, v1, v2, v3] := by cases args; simp_all
  obtain ⟨rfl, rfl⟩ := trodVars_none hV
  have k0 := h0
  have lt0 : ∀ x ∈ p0, x.block < W.heap.size := by obtain ⟨m, hm⟩ := k0; exact DataW.trod_lt m _ _ _ hm
  obtain ⟨q0', rfl, w0⟩ := open_params (hval 0 24 v0 rfl rfl) k0
  obtain ⟨a1, len1, cap1, rfl⟩ := okWide_slice Tryd.underlying56 (hval 1 56 v1 rfl rfl)
  have k1 := h1
  have lt1 : ∀ x ∈ p1, x.block < W.heap.size := by obtain ⟨m, hm⟩ := k1; exact DataW.trod_lt m _ _ _ hm
  obtain ⟨l1, w1⟩ := open_sl reads_i64s k1
  obtain ⟨a2, rfl, rfl, rfl, w2⟩ := open_int Tryd.underlying22 (hval 2 22 v2 rfl rfl) h2
  obtain ⟨a3, rfl, rfl, rfl, w3⟩ := open_int Tryd.underlying3 (hval 3 3 v3 rfl rfl) h3
  clear hA0
  refine (walk q0' _ l1 a2 a3 W w0 w1 w2 w3 (tabs hL)).mono fun e W' ⟨he, bel⟩ => ?_
  subst he
  exact ⟨_, rfl, _, _, _, [], _, [], hW', trodAll_mk1 (shut_bool Tryd.underlying4 _), (trodAll_cons_mk (Below.trod laidOut (by kernel_rfl) (of_decide_eq_true (by kernel_rfl)) k0 bel lt0) (trodAll_cons_mk (Below.trod laidOut (by kernel_rfl) (of_decide_eq_true (by kernel_rfl)) k1 bel lt1) (trodAll_cons_mk (shut_int Tryd.underlying22 w2) (trodAll_cons_mk (shut_int Tryd.underlying3 w3) trodAll_mk0)))), rfl, bel.frame _, fun h => by cases h⟩
/-- A world for the witness: the settled one, the two tables laid. -/
noncomputable def laidWorld (os : Os) : World :=
  { World.holding Tryd.prog os ⟨#[], #[], []⟩ with heap := ((World.holding Tryd.prog os ⟨#[], #[], []⟩).heap.modify 0 (layCells #[.int .u64 2, .int .u64 3, .int .u64 5, .int .u64 7, .int .u64 11, .int .u64 13, .int .u64 17, .int .u64 19, .int .u64 23, .int .u64 29, .int .u64 31, .int .u64 37])).modify 1 (layCells #[.int .u8 0, .int .u8 1, .int .u8 56, .int .u8 2, .int .u8 57, .int .u8 49, .int .u8 28, .int .u8 3, .int .u8 61, .int .u8 58, .int .u8 42, .int .u8 50, .int .u8 38, .int .u8 29, .int .u8 17, .int .u8 4, .int .u8 62, .int .u8 47, .int .u8 59, .int .u8 36, .int .u8 45, .int .u8 43, .int .u8 51, .int .u8 22, .int .u8 53, .int .u8 39, .int .u8 33, .int .u8 30, .int .u8 24, .int .u8 18, .int .u8 12, .int .u8 5, .int .u8 63, .int .u8 55, .int .u8 48, .int .u8 27, .int .u8 60, .int .u8 41, .int .u8 37, .int .u8 16, .int .u8 46, .int .u8 35, .int .u8 44, .int .u8 21, .int .u8 52, .int .u8 32, .int .u8 23, .int .u8 11, .int .u8 54, .int .u8 26, .int .u8 40, .int .u8 15, .int .u8 34, .int .u8 20, .int .u8 31, .int .u8 10, .int .u8 25, .int .u8 14, .int .u8 19, .int .u8 9, .int .u8 13, .int .u8 8, .int .u8 7, .int .u8 6]) }
theorem laid_met (os : Os) : laidMet Tryd.prog Rows.shareWholeRow.laid ((laidWorld os).forCall (fun _ _ => 0) ⟨#[], #[.agg #[.int .u64 0, .int .u64 0, .int .u64 0, .int .u64 0, .int .i64 0, .int .i64 0, .int .i64 0, .int .i64 0, .int .i64 0, .int .i64 0, .int .i64 0, .int .i64 0], .slice none 0 0, .int .u64 0, .int .i64 0], []⟩).memory :=
  laidMet_of_run' 8 (by kernel_rfl) (by kernel_rfl)
theorem reads (os : Os) {H : Type} (enc : TypeId × Value → H) : ∃ places, DataW.whole enc Tryd.prog ((laidWorld os).forCall (fun _ _ => 0) ⟨#[], #[.agg #[.int .u64 0, .int .u64 0, .int .u64 0, .int .u64 0, .int .i64 0, .int .i64 0, .int .i64 0, .int .i64 0, .int .i64 0, .int .i64 0, .int .i64 0, .int .i64 0], .slice none 0 0, .int .u64 0, .int .i64 0], []⟩).memory Tryd.f5.params.toList Rows.shareWholeSpec.vars false (#[.agg #[.int .u64 0, .int .u64 0, .int .u64 0, .int .u64 0, .int .i64 0, .int .i64 0, .int .i64 0, .int .i64 0, .int .i64 0, .int .i64 0, .int .i64 0, .int .i64 0], .slice none 0 0, .int .u64 0, .int .i64 0] : Array Value).toList 8 = some ([.agg [.lit (.int .u64 0), .lit (.int .u64 0), .lit (.int .u64 0), .lit (.int .u64 0), .lit (.int .i64 0), .lit (.int .i64 0), .lit (.int .i64 0), .lit (.int .i64 0), .lit (.int .i64 0), .lit (.int .i64 0), .lit (.int .i64 0), .lit (.int .i64 0)], .nil, .lit (.int .u64 0), .lit (.int .i64 0)], [], places) :=
  ⟨[], by kernel_rfl⟩
set_option maxRecDepth 100000 in
theorem lifted (os : Os) (started : os.Started) (H : Type) (enc : TypeId × Value → H) (F : Stop.Interp) :
    ReturnsInHanded {} Tryd.checked os 5 .any ((OpenSpec.ofChange Rows.shareWholeSpec).preRow enc Tryd.prog Tryd.f5 Rows.shareWholeRow.domain false Rows.shareWholeRow.laid) (((OpenSpec.ofChange Rows.shareWholeSpec).at F).post enc Tryd.prog Tryd.f5 false true false false) := by
  obtain ⟨places, hx⟩ := reads os enc
  refine returnsInHanded_of_row (C := Tryd.checked) (s := OpenSpec.ofChange Rows.shareWholeSpec) own started (by kernel_rfl) Tryd.func5
    (witness_row_at (enc := enc) (C := Tryd.checked) false (laidWorld os) #[.agg #[.int .u64 0, .int .u64 0, .int .u64 0, .int .u64 0, .int .i64 0, .int .i64 0, .int .i64 0, .int .i64 0, .int .i64 0, .int .i64 0, .int .i64 0, .int .i64 0], .slice none 0 0, .int .u64 0, .int .i64 0] rfl (by kernel_rfl) (by kernel_rfl) (by kernel_rfl)
      (OpenSpec.preRow_of_cond 8 hx (by kernel_rfl) (fun k hk => by cases hk) (by kernel_rfl) (laid_met os))) ?_
  intro W base args ds gs before hval hW _ _ _ hL _ _
  exact contract H enc W base args ds gs before hval hW hL
set_option maxRecDepth 100000 in
theorem said : Rows.ShareWholeSaid :=
  OpenClaim.holds_of_cond 5 Tryd.f5 rfl rfl rfl rfl rfl rfl rfl ⟨rfl, rfl, rfl, rfl, rfl⟩ rfl rfl rfl rfl rfl (by kernel_rfl) Tryd.func5 (by kernel_rfl)
    (of_decide_eq_true (by kernel_rfl)) (by unfold Func.isWrapper; first | (rw [if_pos (by decide +kernel)]; kernel_rfl) | (rw [if_neg (by decide +kernel)]; exact ⟨rfl, rfl⟩))
    (fun os started H enc _ F => by rw [OpenClaim.pre_eq_preRow]; exact lifted os started H enc F)
set_option maxRecDepth 100000 in
theorem plain (f : FuncId) (fn : Func) (hf : Tryd.pinned.checked.prog.funcNamed "consistory/consistorylaw20.ShareWhole" = some f) (hfn : Tryd.pinned.checked.prog.funcs[f]? = some fn) :
    false = Tryd.pinned.checked.prog.looks [] ∧ ∀ (j : Nat) t, fn.params[j]? = some t → Tryd.pinned.checked.prog.wantsStandIn t = false := by
  obtain rfl : f = 5 := Option.some.inj ((show Tryd.prog.funcNamed "consistory/consistorylaw20.ShareWhole" = some 5 by kernel_rfl).symm.trans hf) |>.symm
  obtain rfl : fn = Tryd.f5 := (Option.some.inj (Tryd.func5.symm.trans hfn)).symm
  refine ⟨by kernel_rfl, fun j t ht => ?_⟩
  rw [Tryd.params5] at ht
  have hmem := Array.mem_of_getElem? ht
  have hor : t = 24 ∨ t = 56 ∨ t = 22 ∨ t = 3 := by simpa using hmem
  rcases hor with rfl | rfl | rfl | rfl
  all_goals first | exact (show Tryd.prog.wantsStandIn 56 = false by kernel_rfl) | exact (show Tryd.prog.wantsStandIn 24 = false by kernel_rfl) | exact (show Tryd.prog.wantsStandIn 3 = false by kernel_rfl) | exact (show Tryd.prog.wantsStandIn 22 = false by kernel_rfl)
set_option maxRecDepth 100000 in
theorem card : Rows.ShareWholeCardSaid :=
  Claim7.holds_tied_plain_at .later [] _ _ _ _ said (fun _ h => by cases h) (by kernel_rfl) (fun _ h => by cases h) shareWhole_row_tie rfl ⟨rfl, rfl⟩ (by kernel_rfl) rfl plain (by kernel_rfl)
end Go.Proofs.YtmjdpmfcbeaecaaDoor.shareWhole
