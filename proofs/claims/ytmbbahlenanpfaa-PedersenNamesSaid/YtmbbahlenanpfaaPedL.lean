/- law08's works. -/
import Derived.Test.YtmbbahlenanpfaaPedK
import Derived.Test.YtmbbahlenanpfaaMono
namespace Go.Proofs.Ytmbbahlenanpfaa
open Go Go.RowKit

set_option maxRecDepth 100000 in
set_option maxHeartbeats 2000000 in
theorem works08_any (w : World) : Calls Try.prog 4 #[] w fun e w' => e = .returned (.bool true) ∧ w.grownBy w' none := by
  go_enter Try.func4, Try.ntmps4
  go_wp2_with fail
  refine (small_any w).mono ?_
  rintro e w1 ⟨rfl, hg⟩
  have HG := Lib.hid hg
  clear hg
  have S1 := two_new (w1.alloc (.cells ps.cells 25)) (w1.heap.size + 1) (by simp) [1, 2] [3] (by decide) (by decide) (by decide) (by decide)
  have hsz : ((((w1.alloc (.cells ps.cells 25)).alloc (.cells (nums [1, 2]).toArray 23)).alloc (.cells (nums [3]).toArray 23)).alloc (.cells #[.slice (some ⟨w1.heap.size + 1, 0, none⟩) [1, 2].length [1, 2].length, .slice (some ⟨w1.heap.size + 1 + 1, 0, none⟩) [3].length [3].length] 27)).heap.size = w1.heap.size + 1 + 1 + 1 + 1 := by simp
  have S2 := two_new _ _ hsz [1] [0, 1] (by decide) (by decide) (by decide) (by decide)
  have S1' := S1.kept (((World.grownBy_alloc _ (.cells (nums [1]).toArray 23) none).trans (World.grownBy_alloc _ (.cells (nums [0, 1]).toArray 23) none)).trans (World.grownBy_alloc _ (.cells #[.slice (some ⟨w1.heap.size + 1 + 1 + 1 + 1, 0, none⟩) [1].length [1].length, .slice (some ⟨w1.heap.size + 1 + 1 + 1 + 1 + 1, 0, none⟩) [0, 1].length [0, 1].length] 27) none))
  have HC := Lib.hid (coms_any ps _ _ _ _ (fun _ => True) _ ps_ok S1' S2 (by decide) (by decide) (by decide) (by decide))
  rw [coms_ex] at HC
  clear S1 S2 S1' hsz
  go_wp2_with fail
  refine HC.out.mono ?_
  rintro e w2 ⟨v, rfl, hs, hg⟩
  obtain ⟨A5, c5, e5, _, _⟩ := hs.form
  have e5' : v = .slice A5 2 c5 := e5
  subst e5'
  have hc5 : 2 ≤ c5 := by assumption
  have hc51 : (1 : Int) ≤ c5 := by omega
  have HG2 : Hid (w.grownBy w2 none) := Lib.hid (HG.out.trans (World.grownBy.trans (World.grownBy.trans (World.grownBy.trans (World.grownBy.trans (World.grownBy.trans (World.grownBy.trans (World.grownBy.trans (World.grownBy_alloc _ _ none) (World.grownBy_alloc _ _ none)) (World.grownBy_alloc _ _ none)) (World.grownBy_alloc _ _ none)) (World.grownBy_alloc _ _ none)) (World.grownBy_alloc _ _ none)) (World.grownBy_alloc _ _ none)) hg))
  have HB2 : Hid (Bk w2 w1.heap.size 25 ps.cells) := Lib.hid (((((((((Bk.new w1 25 ps.cells).alloc _).alloc _).alloc _).alloc _).alloc _).alloc _)).grown hg (by simp))
  have HS := Lib.hid hs
  clear hg hs e5
  have HSd := Lib.hid ((HS.out.kept (grown_drewN' w2 1)).more (Y := TT) (fun _ _ _ => trivial))
  have HBd : Hid (Bk w2.drew w1.heap.size 25 ps.cells) := Lib.hid (HB2.out.drewN 1)
  have HGd : Hid (w.grownBy w2.drew none) := Lib.hid (grownBy_drewN HG2.out 1)
  clear HS HB2 HG2 HG HC
  have HS := HSd
  have HB2 := HBd
  go_wp2_with fail
  refine wp_region_mono 41 (by kernel_rfl) (by kernel_rfl) ?_
  -- op 0 (slot 12): move
  refine MonoR.step (Pv.eq (.slice A5 2 c5)) [] (by kernel_rfl) (fun w' hw' => ?_) ?_
  · refine ask_do rfl fun K hK => ?_
    go_simp
    exact hK _ _ rfl rfl (World.grownBy.refl _ none)
  -- op 1 (slot 13): buildSlice
  refine MonoR.step (Pv.sl (encU) TT [13, 16]) [] (by kernel_rfl) (fun w' hw' => ?_) ?_
  · refine ask_do rfl fun K hK => ?_
    go_simp
    exact hK _ _ rfl (Sl.build [[.int .u64 13], [.int .u64 16]] rfl ⟨⟨rfl, by decide⟩, ⟨rfl, by decide⟩, trivial⟩ rfl (by decide)) (World.grownBy_alloc w' _ none)
  -- op 2 (slot 14): buildSlice
  refine MonoR.step (Pv.sl (encU) TT [18, 9]) [] (by kernel_rfl) (fun w' hw' => ?_) ?_
  · refine ask_do rfl fun K hK => ?_
    go_simp
    exact hK _ _ rfl (Sl.build [[.int .u64 18], [.int .u64 9]] rfl ⟨⟨rfl, by decide⟩, ⟨rfl, by decide⟩, trivial⟩ rfl (by decide)) (World.grownBy_alloc w' _ none)
  -- op 3 (slot 15): buildSlice
  refine MonoR.step (Pv.sl (encS encU) TT [[13, 16], [18, 9]]) [(1, 13), (2, 14)] (by kernel_rfl) (fun w' hw' => ?_) ?_
  · intro x13 h13
    have h13 : Sl (encU) TT w' x13 [13, 16] := h13
    obtain ⟨A13, c13, e13, k13, l13⟩ := h13.form
    have e13 : x13 = .slice A13 2 c13 := e13
    subst e13
    intro x14 h14
    have h14 : Sl (encU) TT w' x14 [18, 9] := h14
    obtain ⟨A14, c14, e14, k14, l14⟩ := h14.form
    have e14 : x14 = .slice A14 2 c14 := e14
    subst e14
    refine ask_do rfl fun K hK => ?_
    go_simp
    exact hK _ _ rfl (Sl.build [[.slice A13 2 c13], [.slice A14 2 c14]] rfl ⟨⟨_, rfl, h13⟩, ⟨_, rfl, h14⟩, trivial⟩ rfl (by decide)) (World.grownBy_alloc w' _ none)
  -- op 4 (slot 16): call
  refine MonoR.step (Pv.eq (.bool true)) [(0, 12), (3, 15)] (by kernel_rfl) (fun w' hw' => ?_) ?_
  · rintro _ rfl
    intro x15 h15
    have h15 : Sl (encS encU) TT w' x15 [[13, 16], [18, 9]] := h15
    obtain ⟨A15, c15, e15, k15, l15⟩ := h15.form
    have e15 : x15 = .slice A15 2 c15 := e15
    subst e15
    refine ask_do rfl fun K hK => ?_
    go_simp
    refine (lists_eq _ _ [[13, 16], [18, 9]] _ _ _ (HS.out.kept hw') h15).mono ?_
    rintro e w3 ⟨rfl, m3, rfl⟩
    have hg := grown_drewN' w' m3
    exact hK _ _ rfl rfl hg
  -- op 5 (slot 17): move
  refine MonoR.step (Pv.eq (.bool true)) [(4, 16)] (by kernel_rfl) (fun w' hw' => ?_) ?_
  · rintro _ rfl
    refine ask_do rfl fun K hK => ?_
    go_simp
    exact hK _ _ rfl rfl (World.grownBy.refl _ none)
  -- op 6 (slot 18): load [(5, 'true')]
  refine MonoR.step (Pv.eq (ps.v)) [(5, 17)] (by kernel_rfl) (fun w' hw' => ?_) ?_
  · rintro _ rfl
    refine ask_do rfl fun K hK => ?_
    have hp := (HB2.out.grown hw' (by simp)).prule
    go_simp
    exact hK _ _ rfl rfl (World.grownBy.refl _ none)
  -- op 7 (slot 19): move [(5, 'true')]
  refine MonoR.step (Pv.eq (.slice A5 2 c5)) [(5, 17)] (by kernel_rfl) (fun w' hw' => ?_) ?_
  · rintro _ rfl
    refine ask_do rfl fun K hK => ?_
    go_simp
    exact hK _ _ rfl rfl (World.grownBy.refl _ none)
  -- op 8 (slot 20): call [(5, 'true')]
  refine MonoR.step (Pv.eq (.bool true)) [(5, 17), (6, 18), (7, 19)] (by kernel_rfl) (fun w' hw' => ?_) ?_
  · rintro _ rfl
    rintro _ rfl
    rintro _ rfl
    refine ask_do rfl fun K hK => ?_
    go_simp
    refine (formed_any ps _ _ _ _ ps_ok (HS.out.kept hw')).mono ?_
    rintro e w3 ⟨rfl, hg⟩
    rw [formed_ex]
    exact hK _ _ rfl rfl hg
  -- op 9 (slot 21): pick
  refine MonoR.step (Pv.eq (.bool true)) [(5, 17), (8, 20)] (by kernel_rfl) (fun w' hw' => ?_) ?_
  · rintro _ rfl
    rintro _ rfl
    refine ask_do rfl fun K hK => ?_
    go_simp
    exact hK _ _ rfl rfl (World.grownBy.refl _ none)
  -- op 10 (slot 22): move
  refine MonoR.step (Pv.eq (.bool true)) [(9, 21)] (by kernel_rfl) (fun w' hw' => ?_) ?_
  · rintro _ rfl
    refine ask_do rfl fun K hK => ?_
    go_simp
    exact hK _ _ rfl rfl (World.grownBy.refl _ none)
  -- op 11 (slot 23): load [(10, 'true')]
  refine MonoR.step (Pv.eq (ps.v)) [(10, 22)] (by kernel_rfl) (fun w' hw' => ?_) ?_
  · rintro _ rfl
    refine ask_do rfl fun K hK => ?_
    have hp := (HB2.out.grown hw' (by simp)).prule
    go_simp
    exact hK _ _ rfl rfl (World.grownBy.refl _ none)
  -- op 12 (slot 24): move [(10, 'true')]
  refine MonoR.step (Pv.eq (.slice A5 2 c5)) [(10, 22)] (by kernel_rfl) (fun w' hw' => ?_) ?_
  · rintro _ rfl
    refine ask_do rfl fun K hK => ?_
    go_simp
    exact hK _ _ rfl rfl (World.grownBy.refl _ none)
  -- op 13 (slot 25): slice [(10, 'true')]
  refine MonoR.step (Pv.eq (.slice A5 1 c5)) [(10, 22), (12, 24)] (by kernel_rfl) (fun w' hw' => ?_) ?_
  · rintro _ rfl
    rintro _ rfl
    refine ask_do rfl fun K hK => ?_
    go_simp
    exact hK _ _ rfl rfl (World.grownBy.refl _ none)
  -- op 14 (slot 26): call [(10, 'true')]
  refine MonoR.step (Pv.eq (.bool false)) [(10, 22), (11, 23), (13, 25)] (by kernel_rfl) (fun w' hw' => ?_) ?_
  · rintro _ rfl
    rintro _ rfl
    rintro _ rfl
    refine ask_do rfl fun K hK => ?_
    go_simp
    refine (formed_any ps _ [[13, 16]] _ _ ps_ok ((HS.out.kept hw').take 1 (by decide))).mono ?_
    rintro e w3 ⟨rfl, hg⟩
    rw [formed_ex1]
    exact hK _ _ rfl rfl hg
  -- op 15 (slot 27): unOp [(10, 'true')]
  refine MonoR.step (Pv.eq (.bool true)) [(10, 22), (14, 26)] (by kernel_rfl) (fun w' hw' => ?_) ?_
  · rintro _ rfl
    rintro _ rfl
    refine ask_do rfl fun K hK => ?_
    go_simp
    exact hK _ _ rfl rfl (World.grownBy.refl _ none)
  -- op 16 (slot 28): pick
  refine MonoR.step (Pv.eq (.bool true)) [(10, 22), (15, 27)] (by kernel_rfl) (fun w' hw' => ?_) ?_
  · rintro _ rfl
    rintro _ rfl
    refine ask_do rfl fun K hK => ?_
    go_simp
    exact hK _ _ rfl rfl (World.grownBy.refl _ none)
  -- op 17 (slot 29): move
  refine MonoR.step (Pv.eq (.bool true)) [(16, 28)] (by kernel_rfl) (fun w' hw' => ?_) ?_
  · rintro _ rfl
    refine ask_do rfl fun K hK => ?_
    go_simp
    exact hK _ _ rfl rfl (World.grownBy.refl _ none)
  -- op 18 (slot 30): load [(17, 'true')]
  refine MonoR.step (Pv.eq (ps.v)) [(17, 29)] (by kernel_rfl) (fun w' hw' => ?_) ?_
  · rintro _ rfl
    refine ask_do rfl fun K hK => ?_
    have hp := (HB2.out.grown hw' (by simp)).prule
    go_simp
    exact hK _ _ rfl rfl (World.grownBy.refl _ none)
  -- op 19 (slot 31): move [(17, 'true')]
  refine MonoR.step (Pv.eq (.slice A5 2 c5)) [(17, 29)] (by kernel_rfl) (fun w' hw' => ?_) ?_
  · rintro _ rfl
    refine ask_do rfl fun K hK => ?_
    go_simp
    exact hK _ _ rfl rfl (World.grownBy.refl _ none)
  -- op 20 (slot 32): call [(17, 'true')]
  refine MonoR.step (Pv.sl (encU) TT [16, 9]) [(17, 29), (18, 30), (19, 31)] (by kernel_rfl) (fun w' hw' => ?_) ?_
  · rintro _ rfl
    rintro _ rfl
    rintro _ rfl
    refine ask_do rfl fun K hK => ?_
    go_simp
    refine (share_any ps _ _ 2 _ _ (HS.out.kept hw') ⟨by decide, by decide⟩ (by decide)).mono ?_
    rintro e w3 ⟨v3, rfl, h3, hg⟩
    rw [share_ex] at h3
    exact hK _ _ rfl (h3.more (fun _ _ _ => trivial)) hg
  -- op 21 (slot 33): buildSlice [(17, 'true')]
  refine MonoR.step (Pv.sl (encU) TT [16, 9]) [(17, 29)] (by kernel_rfl) (fun w' hw' => ?_) ?_
  · rintro _ rfl
    refine ask_do rfl fun K hK => ?_
    go_simp
    exact hK _ _ rfl (Sl.build [[.int .u64 16], [.int .u64 9]] rfl ⟨⟨rfl, by decide⟩, ⟨rfl, by decide⟩, trivial⟩ rfl (by decide)) (World.grownBy_alloc w' _ none)
  -- op 22 (slot 34): call [(17, 'true')]
  refine MonoR.step (Pv.eq (.bool true)) [(17, 29), (20, 32), (21, 33)] (by kernel_rfl) (fun w' hw' => ?_) ?_
  · rintro _ rfl
    intro x32 h32
    have h32 : Sl (encU) TT w' x32 [16, 9] := h32
    obtain ⟨A32, c32, e32, k32, l32⟩ := h32.form
    have e32 : x32 = .slice A32 2 c32 := e32
    subst e32
    intro x33 h33
    have h33 : Sl (encU) TT w' x33 [16, 9] := h33
    obtain ⟨A33, c33, e33, k33, l33⟩ := h33.form
    have e33 : x33 = .slice A33 2 c33 := e33
    subst e33
    refine ask_do rfl fun K hK => ?_
    go_simp
    refine (nums_eq _ _ [16, 9] _ _ _ h32 h33).mono ?_
    rintro e w3 ⟨rfl, m3, rfl⟩
    have hg := grown_drewN' w' m3
    exact hK _ _ rfl rfl hg
  -- op 23 (slot 35): pick
  refine MonoR.step (Pv.eq (.bool true)) [(17, 29), (22, 34)] (by kernel_rfl) (fun w' hw' => ?_) ?_
  · rintro _ rfl
    rintro _ rfl
    refine ask_do rfl fun K hK => ?_
    go_simp
    exact hK _ _ rfl rfl (World.grownBy.refl _ none)
  -- op 24 (slot 36): move
  refine MonoR.step (Pv.eq (.bool true)) [(23, 35)] (by kernel_rfl) (fun w' hw' => ?_) ?_
  · rintro _ rfl
    refine ask_do rfl fun K hK => ?_
    go_simp
    exact hK _ _ rfl rfl (World.grownBy.refl _ none)
  -- op 25 (slot 37): load [(24, 'true')]
  refine MonoR.step (Pv.eq (ps.v)) [(24, 36)] (by kernel_rfl) (fun w' hw' => ?_) ?_
  · rintro _ rfl
    refine ask_do rfl fun K hK => ?_
    have hp := (HB2.out.grown hw' (by simp)).prule
    go_simp
    exact hK _ _ rfl rfl (World.grownBy.refl _ none)
  -- op 26 (slot 38): move [(24, 'true')]
  refine MonoR.step (Pv.eq (.slice A5 2 c5)) [(24, 36)] (by kernel_rfl) (fun w' hw' => ?_) ?_
  · rintro _ rfl
    refine ask_do rfl fun K hK => ?_
    go_simp
    exact hK _ _ rfl rfl (World.grownBy.refl _ none)
  -- op 27 (slot 39): build [(24, 'true')]
  refine MonoR.step (Pv.eq (.agg #[.int .u64 5, .int .u64 1])) [(24, 36)] (by kernel_rfl) (fun w' hw' => ?_) ?_
  · rintro _ rfl
    refine ask_do rfl fun K hK => ?_
    go_simp
    exact hK _ _ rfl rfl (World.grownBy.refl _ none)
  -- op 28 (slot 40): build [(24, 'true')]
  refine MonoR.step (Pv.eq (.agg #[.int .u64 3, .int .u64 2])) [(24, 36)] (by kernel_rfl) (fun w' hw' => ?_) ?_
  · rintro _ rfl
    refine ask_do rfl fun K hK => ?_
    go_simp
    exact hK _ _ rfl rfl (World.grownBy.refl _ none)
  -- op 29 (slot 41): buildSlice [(24, 'true')]
  refine MonoR.step (Pv.sl encP TT [(5, 1), (3, 2)]) [(24, 36), (27, 39), (28, 40)] (by kernel_rfl) (fun w' hw' => ?_) ?_
  · rintro _ rfl
    rintro _ rfl
    rintro _ rfl
    refine ask_do rfl fun K hK => ?_
    go_simp
    exact hK _ _ rfl (Sl.build [[.int .u64 5, .int .u64 1], [.int .u64 3, .int .u64 2]] rfl ⟨⟨rfl, by decide, by decide⟩, ⟨rfl, by decide, by decide⟩, trivial⟩ rfl (by decide)) (World.grownBy_alloc w' _ none)
  -- op 30 (slot 42): call [(24, 'true')]
  refine MonoR.step (Pv.eq (.bool true)) [(24, 36), (25, 37), (26, 38), (29, 41)] (by kernel_rfl) (fun w' hw' => ?_) ?_
  · rintro _ rfl
    rintro _ rfl
    rintro _ rfl
    intro x41 h41
    have h41 : Sl encP TT w' x41 [(5, 1), (3, 2)] := h41
    obtain ⟨A41, c41, e41, k41, l41⟩ := h41.form
    have e41 : x41 = .slice A41 2 c41 := e41
    subst e41
    refine ask_do rfl fun K hK => ?_
    go_simp
    refine (fits_any ps _ _ 2 _ _ _ _ _ ps_ok (HS.out.kept hw') ⟨by decide, by decide⟩ h41 (by decide) (by decide)).mono ?_
    rintro e w3 ⟨rfl, hg⟩
    rw [fits_ex]
    exact hK _ _ rfl rfl hg
  -- op 31 (slot 43): pick
  refine MonoR.step (Pv.eq (.bool true)) [(24, 36), (30, 42)] (by kernel_rfl) (fun w' hw' => ?_) ?_
  · rintro _ rfl
    rintro _ rfl
    refine ask_do rfl fun K hK => ?_
    go_simp
    exact hK _ _ rfl rfl (World.grownBy.refl _ none)
  -- op 32 (slot 44): move
  refine MonoR.step (Pv.eq (.bool true)) [(31, 43)] (by kernel_rfl) (fun w' hw' => ?_) ?_
  · rintro _ rfl
    refine ask_do rfl fun K hK => ?_
    go_simp
    exact hK _ _ rfl rfl (World.grownBy.refl _ none)
  -- op 33 (slot 45): load [(32, 'true')]
  refine MonoR.step (Pv.eq (ps.v)) [(32, 44)] (by kernel_rfl) (fun w' hw' => ?_) ?_
  · rintro _ rfl
    refine ask_do rfl fun K hK => ?_
    have hp := (HB2.out.grown hw' (by simp)).prule
    go_simp
    exact hK _ _ rfl rfl (World.grownBy.refl _ none)
  -- op 34 (slot 46): move [(32, 'true')]
  refine MonoR.step (Pv.eq (.slice A5 2 c5)) [(32, 44)] (by kernel_rfl) (fun w' hw' => ?_) ?_
  · rintro _ rfl
    refine ask_do rfl fun K hK => ?_
    go_simp
    exact hK _ _ rfl rfl (World.grownBy.refl _ none)
  -- op 35 (slot 47): build [(32, 'true')]
  refine MonoR.step (Pv.eq (.agg #[.int .u64 5, .int .u64 1])) [(32, 44)] (by kernel_rfl) (fun w' hw' => ?_) ?_
  · rintro _ rfl
    refine ask_do rfl fun K hK => ?_
    go_simp
    exact hK _ _ rfl rfl (World.grownBy.refl _ none)
  -- op 36 (slot 48): buildSlice [(32, 'true')]
  refine MonoR.step (Pv.sl encP TT [(5, 1)]) [(32, 44), (35, 47)] (by kernel_rfl) (fun w' hw' => ?_) ?_
  · rintro _ rfl
    rintro _ rfl
    refine ask_do rfl fun K hK => ?_
    go_simp
    exact hK _ _ rfl (Sl.build [[.int .u64 5, .int .u64 1]] rfl ⟨⟨rfl, by decide, by decide⟩, trivial⟩ rfl (by decide)) (World.grownBy_alloc w' _ none)
  -- op 37 (slot 49): call [(32, 'true')]
  refine MonoR.step (Pv.eq (.bool false)) [(32, 44), (33, 45), (34, 46), (36, 48)] (by kernel_rfl) (fun w' hw' => ?_) ?_
  · rintro _ rfl
    rintro _ rfl
    rintro _ rfl
    intro x48 h48
    have h48 : Sl encP TT w' x48 [(5, 1)] := h48
    obtain ⟨A48, c48, e48, k48, l48⟩ := h48.form
    have e48 : x48 = .slice A48 1 c48 := e48
    subst e48
    refine ask_do rfl fun K hK => ?_
    go_simp
    refine (fits_any ps _ _ 2 _ _ _ _ _ ps_ok (HS.out.kept hw') ⟨by decide, by decide⟩ h48 (by decide) (by decide)).mono ?_
    rintro e w3 ⟨rfl, hg⟩
    rw [fits_ex1]
    exact hK _ _ rfl rfl hg
  -- op 38 (slot 50): unOp [(32, 'true')]
  refine MonoR.step (Pv.eq (.bool true)) [(32, 44), (37, 49)] (by kernel_rfl) (fun w' hw' => ?_) ?_
  · rintro _ rfl
    rintro _ rfl
    refine ask_do rfl fun K hK => ?_
    go_simp
    exact hK _ _ rfl rfl (World.grownBy.refl _ none)
  -- op 39 (slot 51): pick
  refine MonoR.step (Pv.eq (.bool true)) [(32, 44), (38, 50)] (by kernel_rfl) (fun w' hw' => ?_) ?_
  · rintro _ rfl
    rintro _ rfl
    refine ask_do rfl fun K hK => ?_
    go_simp
    exact hK _ _ rfl rfl (World.grownBy.refl _ none)
  -- op 40 (slot 0): assign
  refine MonoR.step (Pv.eq (.bool true)) [(39, 51)] (by kernel_rfl) (fun w' hw' => ?_) ?_
  · rintro _ rfl
    refine ask_do rfl fun K hK => ?_
    go_simp
    exact hK _ _ rfl rfl (World.grownBy.refl _ none)
  
  intro w3 hw3
  iterate 40 (intro _ _)
  rintro _ rfl
  have HE := Lib.hid (HGd.out.trans hw3)
  clear hw3
  refine wpList_nil ?_
  simp only [Act.put, List.setIfInBounds_toArray, List.set_cons_zero, List.set_cons_succ]
  go_wp2
  go_ret
  exact ⟨rfl, HE.out⟩
end Go.Proofs.Ytmbbahlenanpfaa
