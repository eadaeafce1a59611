/- law08's works. law08's polynomials of two variables made of numbers. math/bits.TrailingZeros64 and mod.Prime, walked. What comes in: data of whatever depth, as the walks want it. group.May, walked: its asks one by one. Powers and commitments modulo P: plain arithmetic. What rows and columns of a matrix tell at places: the same, whichever comes first. No group is wanted. group.May, walked: the asks as values, and the whole. consistorylaw08.PedersenEither, walked. Sums, differences, products modulo a number, and inverses, as calls that leave what was there as it was. poly.Eval; bivar.wide, reads, Col; walked. A range over a function whose body never leaves, where what is handed over lies in memory that the iterator has just laid: the body is told what is known of it in the world in which it is called. bivar.columns, an iterator over the columns of lists, walked. bivar.Row and Col, walked. bivar.Col, walked. pedersen.Square and Bonded, walked (printed by mk_square.py). The commitments to rows and columns: plain arithmetic. Several slices of the call's own, side by side: what is appended to one leaves the others. -/
import Derived.Test.YtmbbahlenanpfaaDoorZ2
import Derived.IntWalk
import Derived.Lib.TrailingZeros
import Derived.Deep.LoopGhost
import Derived.WalkMore
import Derived.ProofKit
import Derived.OpenShut
import Derived.ChangeOld
import Derived.Deep.Slices
import Derived.RangeFuncNested
namespace Go.Proofs.YtmbbahlenanpfaaDoor
open Go Go.RowKit

set_option maxRecDepth 100000 in
set_option maxHeartbeats 2000000 in
theorem works08_any (w : World) : Calls Tryd.prog 7 #[] w fun e w' => e = .returned (.bool true) ∧ w.grownBy w' none := by
  go_enter Tryd.func7, Tryd.ntmps7
  go_wp2_with fail
  refine (small_any w).mono ?_
  rintro e w1 ⟨rfl, hg⟩
  have HG := Lib.hid hg
  clear hg
  have S1 := two_new (w1.alloc (.cells ps.cells 24)) (w1.heap.size + 1) (by simp) [1, 2] [3] (by decide) (by decide) (by decide) (by decide)
  have hsz : ((((w1.alloc (.cells ps.cells 24)).alloc (.cells (nums [1, 2]).toArray 22)).alloc (.cells (nums [3]).toArray 22)).alloc (.cells #[.slice (some ⟨w1.heap.size + 1, 0, none⟩) [1, 2].length [1, 2].length, .slice (some ⟨w1.heap.size + 1 + 1, 0, none⟩) [3].length [3].length] 25)).heap.size = w1.heap.size + 1 + 1 + 1 + 1 := by simp
  have S2 := two_new _ _ hsz [1] [0, 1] (by decide) (by decide) (by decide) (by decide)
  have S1' := S1.kept (((World.grownBy_alloc _ (.cells (nums [1]).toArray 22) none).trans (World.grownBy_alloc _ (.cells (nums [0, 1]).toArray 22) none)).trans (World.grownBy_alloc _ (.cells #[.slice (some ⟨w1.heap.size + 1 + 1 + 1 + 1, 0, none⟩) [1].length [1].length, .slice (some ⟨w1.heap.size + 1 + 1 + 1 + 1 + 1, 0, none⟩) [0, 1].length [0, 1].length] 25) none))
  have HC := Lib.hid (coms_any ps _ _ _ _ (fun _ => True) _ ps_ok S1' S2 (by decide) (by decide) (by decide) (by decide))
  rw [coms_ex] at HC
  clear S1 S2 S1' hsz
  go_wp2_with fail
  refine HC.out.mono ?_
  rintro e w2 ⟨v, rfl, hs, hg⟩
  obtain ⟨A5, c5, e5, _, _⟩ := hs.form
  have e5' : v = .slice A5 2 c5 := e5
  subst e5'
  have hc5 : 2 ≤ c5 := by assumption
  have hc51 : (1 : Int) ≤ c5 := by omega
  have HG2 : Hid (w.grownBy w2 none) := Lib.hid (HG.out.trans (World.grownBy.trans (World.grownBy.trans (World.grownBy.trans (World.grownBy.trans (World.grownBy.trans (World.grownBy.trans (World.grownBy.trans (World.grownBy_alloc _ _ none) (World.grownBy_alloc _ _ none)) (World.grownBy_alloc _ _ none)) (World.grownBy_alloc _ _ none)) (World.grownBy_alloc _ _ none)) (World.grownBy_alloc _ _ none)) (World.grownBy_alloc _ _ none)) hg))
  have HB2 : Hid (Bk w2 w1.heap.size 24 ps.cells) := Lib.hid (((((((((Bk.new w1 24 ps.cells).alloc _).alloc _).alloc _).alloc _).alloc _).alloc _)).grown hg (by simp))
  have HS := Lib.hid hs
  clear hg hs e5
  have HSd := Lib.hid ((HS.out.kept (grown_drewN' w2 1)).more (Y := TT) (fun _ _ _ => trivial))
  have HBd : Hid (Bk w2.drew w1.heap.size 24 ps.cells) := Lib.hid (HB2.out.drewN 1)
  have HGd : Hid (w.grownBy w2.drew none) := Lib.hid (grownBy_drewN HG2.out 1)
  clear HS HB2 HG2 HG HC
  have HS := HSd
  have HB2 := HBd
  go_wp2_with fail
  refine wp_region_mono 41 (by kernel_rfl) (by kernel_rfl) ?_
  -- op 0 (slot 12): move
  refine MonoR.step (Pv.eq (.slice A5 2 c5)) [] (by kernel_rfl) (fun w' hw' => ?_) ?_
  · refine ask_do rfl fun K hK => ?_
    go_simp
    exact hK _ _ rfl rfl (World.grownBy.refl _ none)
  -- op 1 (slot 13): buildSlice
  refine MonoR.step (Pv.sl (encU) TT [13, 16]) [] (by kernel_rfl) (fun w' hw' => ?_) ?_
  · refine ask_do rfl fun K hK => ?_
    go_simp
    exact hK _ _ rfl (Sl.build [[.int .u64 13], [.int .u64 16]] rfl ⟨⟨rfl, by decide⟩, ⟨rfl, by decide⟩, trivial⟩ rfl (by decide)) (World.grownBy_alloc w' _ none)
  -- op 2 (slot 14): buildSlice
  refine MonoR.step (Pv.sl (encU) TT [18, 9]) [] (by kernel_rfl) (fun w' hw' => ?_) ?_
  · refine ask_do rfl fun K hK => ?_
    go_simp
    exact hK _ _ rfl (Sl.build [[.int .u64 18], [.int .u64 9]] rfl ⟨⟨rfl, by decide⟩, ⟨rfl, by decide⟩, trivial⟩ rfl (by decide)) (World.grownBy_alloc w' _ none)
  -- op 3 (slot 15): buildSlice
  refine MonoR.step (Pv.sl (encS encU) TT [[13, 16], [18, 9]]) [(1, 13), (2, 14)] (by kernel_rfl) (fun w' hw' => ?_) ?_
  · intro x13 h13
    have h13 : Sl (encU) TT w' x13 [13, 16] := h13
    obtain ⟨A13, c13, e13, k13, l13⟩ := h13.form
    have e13 : x13 = .slice A13 2 c13 := e13
    subst e13
    intro x14 h14
    have h14 : Sl (encU) TT w' x14 [18, 9] := h14
    obtain ⟨A14, c14, e14, k14, l14⟩ := h14.form
    have e14 : x14 = .slice A14 2 c14 := e14
    subst e14
    refine ask_do rfl fun K hK => ?_
    go_simp
    exact hK _ _ rfl (Sl.build [[.slice A13 2 c13], [.slice A14 2 c14]] rfl ⟨⟨_, rfl, h13⟩, ⟨_, rfl, h14⟩, trivial⟩ rfl (by decide)) (World.grownBy_alloc w' _ none)
  -- op 4 (slot 16): call
  refine MonoR.step (Pv.eq (.bool true)) [(0, 12), (3, 15)] (by kernel_rfl) (fun w' hw' => ?_) ?_
  · rintro _ rfl
    intro x15 h15
    have h15 : Sl (encS encU) TT w' x15 [[13, 16], [18, 9]] := h15
    obtain ⟨A15, c15, e15, k15, l15⟩ := h15.form
    have e15 : x15 = .slice A15 2 c15 := e15
    subst e15
    refine ask_do rfl fun K hK => ?_
    go_simp
    refine (lists_eq _ _ [[13, 16], [18, 9]] _ _ _ (HS.out.kept hw') h15).mono ?_
    rintro e w3 ⟨rfl, m3, rfl⟩
    have hg := grown_drewN' w' m3
    exact hK _ _ rfl rfl hg
  -- op 5 (slot 17): move
  refine MonoR.step (Pv.eq (.bool true)) [(4, 16)] (by kernel_rfl) (fun w' hw' => ?_) ?_
  · rintro _ rfl
    refine ask_do rfl fun K hK => ?_
    go_simp
    exact hK _ _ rfl rfl (World.grownBy.refl _ none)
  -- op 6 (slot 18): load [(5, 'true')]
  refine MonoR.step (Pv.eq (ps.v)) [(5, 17)] (by kernel_rfl) (fun w' hw' => ?_) ?_
  · rintro _ rfl
    refine ask_do rfl fun K hK => ?_
    have hp := (HB2.out.grown hw' (by simp)).prule
    go_simp
    exact hK _ _ rfl rfl (World.grownBy.refl _ none)
  -- op 7 (slot 19): move [(5, 'true')]
  refine MonoR.step (Pv.eq (.slice A5 2 c5)) [(5, 17)] (by kernel_rfl) (fun w' hw' => ?_) ?_
  · rintro _ rfl
    refine ask_do rfl fun K hK => ?_
    go_simp
    exact hK _ _ rfl rfl (World.grownBy.refl _ none)
  -- op 8 (slot 20): call [(5, 'true')]
  refine MonoR.step (Pv.eq (.bool true)) [(5, 17), (6, 18), (7, 19)] (by kernel_rfl) (fun w' hw' => ?_) ?_
  · rintro _ rfl
    rintro _ rfl
    rintro _ rfl
    refine ask_do rfl fun K hK => ?_
    go_simp
    refine (formed_any ps _ _ _ _ ps_ok (HS.out.kept hw')).mono ?_
    rintro e w3 ⟨rfl, hg⟩
    rw [formed_ex]
    exact hK _ _ rfl rfl hg
  -- op 9 (slot 21): pick
  refine MonoR.step (Pv.eq (.bool true)) [(5, 17), (8, 20)] (by kernel_rfl) (fun w' hw' => ?_) ?_
  · rintro _ rfl
    rintro _ rfl
    refine ask_do rfl fun K hK => ?_
    go_simp
    exact hK _ _ rfl rfl (World.grownBy.refl _ none)
  -- op 10 (slot 22): move
  refine MonoR.step (Pv.eq (.bool true)) [(9, 21)] (by kernel_rfl) (fun w' hw' => ?_) ?_
  · rintro _ rfl
    refine ask_do rfl fun K hK => ?_
    go_simp
    exact hK _ _ rfl rfl (World.grownBy.refl _ none)
  -- op 11 (slot 23): load [(10, 'true')]
  refine MonoR.step (Pv.eq (ps.v)) [(10, 22)] (by kernel_rfl) (fun w' hw' => ?_) ?_
  · rintro _ rfl
    refine ask_do rfl fun K hK => ?_
    have hp := (HB2.out.grown hw' (by simp)).prule
    go_simp
    exact hK _ _ rfl rfl (World.grownBy.refl _ none)
  -- op 12 (slot 24): move [(10, 'true')]
  refine MonoR.step (Pv.eq (.slice A5 2 c5)) [(10, 22)] (by kernel_rfl) (fun w' hw' => ?_) ?_
  · rintro _ rfl
    refine ask_do rfl fun K hK => ?_
    go_simp
    exact hK _ _ rfl rfl (World.grownBy.refl _ none)
  -- op 13 (slot 25): slice [(10, 'true')]
  refine MonoR.step (Pv.eq (.slice A5 1 c5)) [(10, 22), (12, 24)] (by kernel_rfl) (fun w' hw' => ?_) ?_
  · rintro _ rfl
    rintro _ rfl
    refine ask_do rfl fun K hK => ?_
    go_simp
    exact hK _ _ rfl rfl (World.grownBy.refl _ none)
  -- op 14 (slot 26): call [(10, 'true')]
  refine MonoR.step (Pv.eq (.bool false)) [(10, 22), (11, 23), (13, 25)] (by kernel_rfl) (fun w' hw' => ?_) ?_
  · rintro _ rfl
    rintro _ rfl
    rintro _ rfl
    refine ask_do rfl fun K hK => ?_
    go_simp
    refine (formed_any ps _ [[13, 16]] _ _ ps_ok ((HS.out.kept hw').take 1 (by decide))).mono ?_
    rintro e w3 ⟨rfl, hg⟩
    rw [formed_ex1]
    exact hK _ _ rfl rfl hg
  -- op 15 (slot 27): unOp [(10, 'true')]
  refine MonoR.step (Pv.eq (.bool true)) [(10, 22), (14, 26)] (by kernel_rfl) (fun w' hw' => ?_) ?_
  · rintro _ rfl
    rintro _ rfl
    refine ask_do rfl fun K hK => ?_
    go_simp
    exact hK _ _ rfl rfl (World.grownBy.refl _ none)
  -- op 16 (slot 28): pick
  refine MonoR.step (Pv.eq (.bool true)) [(10, 22), (15, 27)] (by kernel_rfl) (fun w' hw' => ?_) ?_
  · rintro _ rfl
    rintro _ rfl
    refine ask_do rfl fun K hK => ?_
    go_simp
    exact hK _ _ rfl rfl (World.grownBy.refl _ none)
  -- op 17 (slot 29): move
  refine MonoR.step (Pv.eq (.bool true)) [(16, 28)] (by kernel_rfl) (fun w' hw' => ?_) ?_
  · rintro _ rfl
    refine ask_do rfl fun K hK => ?_
    go_simp
    exact hK _ _ rfl rfl (World.grownBy.refl _ none)
  -- op 18 (slot 30): load [(17, 'true')]
  refine MonoR.step (Pv.eq (ps.v)) [(17, 29)] (by kernel_rfl) (fun w' hw' => ?_) ?_
  · rintro _ rfl
    refine ask_do rfl fun K hK => ?_
    have hp := (HB2.out.grown hw' (by simp)).prule
    go_simp
    exact hK _ _ rfl rfl (World.grownBy.refl _ none)
  -- op 19 (slot 31): move [(17, 'true')]
  refine MonoR.step (Pv.eq (.slice A5 2 c5)) [(17, 29)] (by kernel_rfl) (fun w' hw' => ?_) ?_
  · rintro _ rfl
    refine ask_do rfl fun K hK => ?_
    go_simp
    exact hK _ _ rfl rfl (World.grownBy.refl _ none)
  -- op 20 (slot 32): call [(17, 'true')]
  refine MonoR.step (Pv.sl (encU) TT [16, 9]) [(17, 29), (18, 30), (19, 31)] (by kernel_rfl) (fun w' hw' => ?_) ?_
  · rintro _ rfl
    rintro _ rfl
    rintro _ rfl
    refine ask_do rfl fun K hK => ?_
    go_simp
    refine (share_any ps _ _ 2 _ _ (HS.out.kept hw') ⟨by decide, by decide⟩ (by decide)).mono ?_
    rintro e w3 ⟨v3, rfl, h3, hg⟩
    rw [share_ex] at h3
    exact hK _ _ rfl (h3.more (fun _ _ _ => trivial)) hg
  -- op 21 (slot 33): buildSlice [(17, 'true')]
  refine MonoR.step (Pv.sl (encU) TT [16, 9]) [(17, 29)] (by kernel_rfl) (fun w' hw' => ?_) ?_
  · rintro _ rfl
    refine ask_do rfl fun K hK => ?_
    go_simp
    exact hK _ _ rfl (Sl.build [[.int .u64 16], [.int .u64 9]] rfl ⟨⟨rfl, by decide⟩, ⟨rfl, by decide⟩, trivial⟩ rfl (by decide)) (World.grownBy_alloc w' _ none)
  -- op 22 (slot 34): call [(17, 'true')]
  refine MonoR.step (Pv.eq (.bool true)) [(17, 29), (20, 32), (21, 33)] (by kernel_rfl) (fun w' hw' => ?_) ?_
  · rintro _ rfl
    intro x32 h32
    have h32 : Sl (encU) TT w' x32 [16, 9] := h32
    obtain ⟨A32, c32, e32, k32, l32⟩ := h32.form
    have e32 : x32 = .slice A32 2 c32 := e32
    subst e32
    intro x33 h33
    have h33 : Sl (encU) TT w' x33 [16, 9] := h33
    obtain ⟨A33, c33, e33, k33, l33⟩ := h33.form
    have e33 : x33 = .slice A33 2 c33 := e33
    subst e33
    refine ask_do rfl fun K hK => ?_
    go_simp
    refine (nums_eq _ _ [16, 9] _ _ _ h32 h33).mono ?_
    rintro e w3 ⟨rfl, m3, rfl⟩
    have hg := grown_drewN' w' m3
    exact hK _ _ rfl rfl hg
  -- op 23 (slot 35): pick
  refine MonoR.step (Pv.eq (.bool true)) [(17, 29), (22, 34)] (by kernel_rfl) (fun w' hw' => ?_) ?_
  · rintro _ rfl
    rintro _ rfl
    refine ask_do rfl fun K hK => ?_
    go_simp
    exact hK _ _ rfl rfl (World.grownBy.refl _ none)
  -- op 24 (slot 36): move
  refine MonoR.step (Pv.eq (.bool true)) [(23, 35)] (by kernel_rfl) (fun w' hw' => ?_) ?_
  · rintro _ rfl
    refine ask_do rfl fun K hK => ?_
    go_simp
    exact hK _ _ rfl rfl (World.grownBy.refl _ none)
  -- op 25 (slot 37): load [(24, 'true')]
  refine MonoR.step (Pv.eq (ps.v)) [(24, 36)] (by kernel_rfl) (fun w' hw' => ?_) ?_
  · rintro _ rfl
    refine ask_do rfl fun K hK => ?_
    have hp := (HB2.out.grown hw' (by simp)).prule
    go_simp
    exact hK _ _ rfl rfl (World.grownBy.refl _ none)
  -- op 26 (slot 38): move [(24, 'true')]
  refine MonoR.step (Pv.eq (.slice A5 2 c5)) [(24, 36)] (by kernel_rfl) (fun w' hw' => ?_) ?_
  · rintro _ rfl
    refine ask_do rfl fun K hK => ?_
    go_simp
    exact hK _ _ rfl rfl (World.grownBy.refl _ none)
  -- op 27 (slot 39): build [(24, 'true')]
  refine MonoR.step (Pv.eq (.agg #[.int .u64 5, .int .u64 1])) [(24, 36)] (by kernel_rfl) (fun w' hw' => ?_) ?_
  · rintro _ rfl
    refine ask_do rfl fun K hK => ?_
    go_simp
    exact hK _ _ rfl rfl (World.grownBy.refl _ none)
  -- op 28 (slot 40): build [(24, 'true')]
  refine MonoR.step (Pv.eq (.agg #[.int .u64 3, .int .u64 2])) [(24, 36)] (by kernel_rfl) (fun w' hw' => ?_) ?_
  · rintro _ rfl
    refine ask_do rfl fun K hK => ?_
    go_simp
    exact hK _ _ rfl rfl (World.grownBy.refl _ none)
  -- op 29 (slot 41): buildSlice [(24, 'true')]
  refine MonoR.step (Pv.sl encP TT [(5, 1), (3, 2)]) [(24, 36), (27, 39), (28, 40)] (by kernel_rfl) (fun w' hw' => ?_) ?_
  · rintro _ rfl
    rintro _ rfl
    rintro _ rfl
    refine ask_do rfl fun K hK => ?_
    go_simp
    exact hK _ _ rfl (Sl.build [[.int .u64 5, .int .u64 1], [.int .u64 3, .int .u64 2]] rfl ⟨⟨rfl, by decide, by decide⟩, ⟨rfl, by decide, by decide⟩, trivial⟩ rfl (by decide)) (World.grownBy_alloc w' _ none)
  -- op 30 (slot 42): call [(24, 'true')]
  refine MonoR.step (Pv.eq (.bool true)) [(24, 36), (25, 37), (26, 38), (29, 41)] (by kernel_rfl) (fun w' hw' => ?_) ?_
  · rintro _ rfl
    rintro _ rfl
    rintro _ rfl
    intro x41 h41
    have h41 : Sl encP TT w' x41 [(5, 1), (3, 2)] := h41
    obtain ⟨A41, c41, e41, k41, l41⟩ := h41.form
    have e41 : x41 = .slice A41 2 c41 := e41
    subst e41
    refine ask_do rfl fun K hK => ?_
    go_simp
    refine (fits_any ps _ _ 2 _ _ _ _ _ ps_ok (HS.out.kept hw') ⟨by decide, by decide⟩ h41 (by decide) (by decide)).mono ?_
    rintro e w3 ⟨rfl, hg⟩
    rw [fits_ex]
    exact hK _ _ rfl rfl hg
  -- op 31 (slot 43): pick
  refine MonoR.step (Pv.eq (.bool true)) [(24, 36), (30, 42)] (by kernel_rfl) (fun w' hw' => ?_) ?_
  · rintro _ rfl
    rintro _ rfl
    refine ask_do rfl fun K hK => ?_
    go_simp
    exact hK _ _ rfl rfl (World.grownBy.refl _ none)
  -- op 32 (slot 44): move
  refine MonoR.step (Pv.eq (.bool true)) [(31, 43)] (by kernel_rfl) (fun w' hw' => ?_) ?_
  · rintro _ rfl
    refine ask_do rfl fun K hK => ?_
    go_simp
    exact hK _ _ rfl rfl (World.grownBy.refl _ none)
  -- op 33 (slot 45): load [(32, 'true')]
  refine MonoR.step (Pv.eq (ps.v)) [(32, 44)] (by kernel_rfl) (fun w' hw' => ?_) ?_
  · rintro _ rfl
    refine ask_do rfl fun K hK => ?_
    have hp := (HB2.out.grown hw' (by simp)).prule
    go_simp
    exact hK _ _ rfl rfl (World.grownBy.refl _ none)
  -- op 34 (slot 46): move [(32, 'true')]
  refine MonoR.step (Pv.eq (.slice A5 2 c5)) [(32, 44)] (by kernel_rfl) (fun w' hw' => ?_) ?_
  · rintro _ rfl
    refine ask_do rfl fun K hK => ?_
    go_simp
    exact hK _ _ rfl rfl (World.grownBy.refl _ none)
  -- op 35 (slot 47): build [(32, 'true')]
  refine MonoR.step (Pv.eq (.agg #[.int .u64 5, .int .u64 1])) [(32, 44)] (by kernel_rfl) (fun w' hw' => ?_) ?_
  · rintro _ rfl
    refine ask_do rfl fun K hK => ?_
    go_simp
    exact hK _ _ rfl rfl (World.grownBy.refl _ none)
  -- op 36 (slot 48): buildSlice [(32, 'true')]
  refine MonoR.step (Pv.sl encP TT [(5, 1)]) [(32, 44), (35, 47)] (by kernel_rfl) (fun w' hw' => ?_) ?_
  · rintro _ rfl
    rintro _ rfl
    refine ask_do rfl fun K hK => ?_
    go_simp
    exact hK _ _ rfl (Sl.build [[.int .u64 5, .int .u64 1]] rfl ⟨⟨rfl, by decide, by decide⟩, trivial⟩ rfl (by decide)) (World.grownBy_alloc w' _ none)
  -- op 37 (slot 49): call [(32, 'true')]
  refine MonoR.step (Pv.eq (.bool false)) [(32, 44), (33, 45), (34, 46), (36, 48)] (by kernel_rfl) (fun w' hw' => ?_) ?_
  · rintro _ rfl
    rintro _ rfl
    rintro _ rfl
    intro x48 h48
    have h48 : Sl encP TT w' x48 [(5, 1)] := h48
    obtain ⟨A48, c48, e48, k48, l48⟩ := h48.form
    have e48 : x48 = .slice A48 1 c48 := e48
    subst e48
    refine ask_do rfl fun K hK => ?_
    go_simp
    refine (fits_any ps _ _ 2 _ _ _ _ _ ps_ok (HS.out.kept hw') ⟨by decide, by decide⟩ h48 (by decide) (by decide)).mono ?_
    rintro e w3 ⟨rfl, hg⟩
    rw [fits_ex1]
    exact hK _ _ rfl rfl hg
  -- op 38 (slot 50): unOp [(32, 'true')]
  refine MonoR.step (Pv.eq (.bool true)) [(32, 44), (37, 49)] (by kernel_rfl) (fun w' hw' => ?_) ?_
  · rintro _ rfl
    rintro _ rfl
    refine ask_do rfl fun K hK => ?_
    go_simp
    exact hK _ _ rfl rfl (World.grownBy.refl _ none)
  -- op 39 (slot 51): pick
  refine MonoR.step (Pv.eq (.bool true)) [(32, 44), (38, 50)] (by kernel_rfl) (fun w' hw' => ?_) ?_
  · rintro _ rfl
    rintro _ rfl
    refine ask_do rfl fun K hK => ?_
    go_simp
    exact hK _ _ rfl rfl (World.grownBy.refl _ none)
  -- op 40 (slot 0): assign
  refine MonoR.step (Pv.eq (.bool true)) [(39, 51)] (by kernel_rfl) (fun w' hw' => ?_) ?_
  · rintro _ rfl
    refine ask_do rfl fun K hK => ?_
    go_simp
    exact hK _ _ rfl rfl (World.grownBy.refl _ none)
  
  intro w3 hw3
  iterate 40 (intro _ _)
  rintro _ rfl
  have HE := Lib.hid (HGd.out.trans hw3)
  clear hw3
  refine wpList_nil ?_
  simp only [Act.put, List.setIfInBounds_toArray, List.set_cons_zero, List.set_cons_succ]
  go_wp2
  go_ret
  exact ⟨rfl, HE.out⟩
end Go.Proofs.YtmbbahlenanpfaaDoor

namespace Go.Proofs.YtmbbahlenanpfaaDoor
open Go Go.RowKit

set_option maxHeartbeats 400000 in
theorem secrets08_any (p : Par) (w : World) :
    Calls Tryd.prog 42 #[p.v] w fun e w' => e = .returned (.int .i64 (secretsI p)) ∧ w.grownBy w' none := by
  go_enter Tryd.func42, Tryd.ntmps42
  go_wp2
  go_ret
  exact ⟨rfl, World.grownBy_alloc w _ none⟩
/-- The at-th number of a list that is gone through again and again; its place, if there is none. -/
def xAt (l : List Int) (k : Nat) : Int := if 0 < l.length then l[k % l.length]?.getD 0 else k
def xRow (l : List Int) (k n : Nat) : List Int := (List.range n).map fun j => xAt l (k + j)
def xSq (l : List Int) (n k m : Nat) : List (List Int) := (List.range m).map fun i => xRow l (k + i * n) n
def xCube (l : List Int) (n m : Nat) : List (List (List Int)) := (List.range m).map fun s => xSq l n (s * (n * n)) n
theorem xRow_snoc (l : List Int) (k n : Nat) : xRow l k (n + 1) = xRow l k n ++ [xAt l (k + n)] := by simp [xRow, List.range_succ]
theorem xSq_snoc (l : List Int) (n k m : Nat) : xSq l n k (m + 1) = xSq l n k m ++ [xRow l (k + m * n) n] := by simp [xSq, List.range_succ]
theorem xCube_snoc (l : List Int) (n m : Nat) : xCube l n (m + 1) = xCube l n m ++ [xSq l n (m * (n * n)) n] := by simp [xCube, List.range_succ]
theorem xRow_length (l : List Int) (k n : Nat) : (xRow l k n).length = n := by simp [xRow]
theorem xSq_length (l : List Int) (n k m : Nat) : (xSq l n k m).length = m := by simp [xSq]
theorem xCube_length (l : List Int) (n m : Nat) : (xCube l n m).length = m := by simp [xCube]
theorem xAt_U64 {X : Nat → Prop} {w : World} {v : Value} {l : List Int} (h : Sl encU X w v l) (k : Nat) (hk : k ≤ 1000000) : U64 (xAt l k) := by
  unfold xAt
  split
  · rename_i hl
    have hlt := Nat.mod_lt k hl
    rw [List.getElem?_eq_getElem hlt]
    obtain ⟨_, _, _, _, _, _, _, u⟩ := h.atU hlt
    exact u
  · exact ⟨by omega, by omega⟩
set_option maxHeartbeats 4000000 in
theorem two_any (p : Par) (v : Value) (l : List Int) (n S : Nat) (X : Nat → Prop) (w : World) (h : Sl encU X w v l) (hn : p.T + 1 = (n : Int)) (hT0 : 0 ≤ p.T) (hn9 : n ≤ 9) (hS : secretsI p = (S : Int)) (hS9 : S ≤ 100) :
    Calls Tryd.prog 14 #[p.v, v] w (Gives (encS (encS encU)) (fun g => w.heap.size ≤ g) w (xCube l n S)) := by
  have H := Lib.hid h
  obtain ⟨A, c, rfl, hc1, hc2⟩ := h.form
  have HSEC : Hid (∀ w, Calls Tryd.prog 42 #[p.v] w fun e w' => e = .returned (.int .i64 (S : Int)) ∧ w.grownBy w' none) := Lib.hid (fun w => (secrets08_any p w).mono fun e w' h => ⟨by rw [h.1, hS], h.2⟩)
  obtain ⟨T, hT⟩ : ∃ T : Nat, p.T = (T : Int) := ⟨p.T.toNat, by omega⟩
  have hnT : n = T + 1 := by omega
  have HT := Lib.hid hT
  have HST : Hid (Acc (encS (encS encU)) w.heap.size 28 (fun g => w.heap.size ≤ g) (w.alloc (Obj.cells p.cells 24)) (.slice none 0 0) (xCube l n 0) ∧ w.grownBy (w.alloc (Obj.cells p.cells 24)) none ∧ Bk (w.alloc (Obj.cells p.cells 24)) w.heap.size 24 p.cells) := Lib.hid ⟨Acc.nil _ _ _ _ _, World.grownBy_alloc w _ none, Bk.new w _ _⟩
  have HNN : Hid (n * n ≤ 81) := Lib.hid (by have := Nat.mul_le_mul hn9 hn9; omega)
  have H0 : Hid ((0 : Nat) = 0 * (n * n)) := Lib.hid (by simp)
  have HNT := Lib.hid hnT
  clear h hn hS hT hnT
  go_enter Tryd.func14, Tryd.ntmps14
  go_wp2_with fail
  go_loopg [5, 6, 7] S (fun g s5 s6 s7 wx => ∃ s k : Nat, s + g = S ∧ s7 = .int .i64 s ∧ s6 = .int .i64 k ∧ Hid (k = s * (n * n)) ∧ Hid (Acc (encS (encS encU)) w.heap.size 28 (fun g => w.heap.size ≤ g) wx s5 (xCube l n s) ∧ w.grownBy wx none ∧ Bk wx w.heap.size 24 p.cells))
  case atStart => exact ⟨0, 0, by omega, rfl, rfl, H0, HST⟩
  case round =>
    rename World => wj
    obtain ⟨s, k, hs, rfl, rfl, HK, HX⟩ := hrel
    have hpr := HX.out.2.2.prule
    have hplt := HX.out.2.2.lt
    cases gk with
    | zero =>
      obtain rfl : s = S := by omega
      have HR : Hid (Sl (encS (encS encU)) (fun g => w.heap.size ≤ g) wj u5 (xCube l n s) ∧ w.grownBy wj none) := Lib.hid ⟨HX.out.1.sl, HX.out.2.1⟩
      clear HX HST
      go_wp2_with fail
      refine (HSEC.out _).mono ?_
      rintro e w1 ⟨rfl, hg1⟩
      have HE : Hid (Sl (encS (encS encU)) (fun g => w.heap.size ≤ g) w1 u5 (xCube l n s) ∧ w.grownBy w1 none) := Lib.hid ⟨HR.out.1.kept hg1, HR.out.2.trans hg1⟩
      clear hg1 hpr
      go_wp2
      go_ret
      exact ⟨_, rfl, HE.out.1, HE.out.2⟩
    | succ m =>
      have hsn : (s : Int) < (S : Int) := by omega
      have HKB : Hid (k ≤ 8100) := Lib.hid (by rw [HK.out]; have := Nat.mul_le_mul (show s ≤ 100 by omega) HNN.out; omega)
      go_wp2_with fail
      refine (HSEC.out _).mono ?_
      rintro e w1 ⟨rfl, hg1⟩
      have HX1 : Hid (Acc (encS (encS encU)) w.heap.size 28 (fun g => w.heap.size ≤ g) w1 u5 (xCube l n s) ∧ w.grownBy w1 none ∧ Bk w1 w.heap.size 24 p.cells) := Lib.hid ⟨HX.out.1.kept hg1, HX.out.2.1.trans hg1, HX.out.2.2.grown hg1 (by simp)⟩
      have HS2 : Hid (Acc (encS encU) w1.heap.size 25 (fun g => w1.heap.size ≤ g) w1 (.slice none 0 0) (xSq l n k 0) ∧ w1.grownBy w1 none) := Lib.hid ⟨Acc.nil _ _ _ _ _, World.grownBy.refl w1 none⟩
      have H00 : Hid (k = k + 0 * n) := Lib.hid (by simp)
      clear hg1 hpr HX HST
      go_wp2_with fail
      go_loopg [6, 8, 9] n (fun g s6 s8 s9 wx => ∃ i q : Nat, i + g = n ∧ s9 = .int .i64 i ∧ s6 = .int .i64 q ∧ Hid (q = k + i * n) ∧ Hid (Acc (encS encU) w1.heap.size 25 (fun g => w1.heap.size ≤ g) wx s8 (xSq l n k i) ∧ w1.grownBy wx none))
      case atStart => exact ⟨0, k, by omega, rfl, rfl, H00, HS2⟩
      case round =>
        rename World => wk
        obtain ⟨i, q, hi, rfl, rfl, HQ, HY⟩ := hrel
        have HBk := Lib.hid (HX1.out.2.2.grown HY.out.2 (by simp))
        have hpr := HBk.out.prule
        rw [HT.out] at hpr
        have hnT := HNT.out
        cases gk with
        | zero =>
          obtain rfl : i = n := by omega
          have hiT : ¬ ((i : Int) ≤ (T : Int)) := by omega
          have HXa : Hid (Acc (encS (encS encU)) w.heap.size 28 (fun g => w.heap.size ≤ g) wk u5 (xCube l i s)) := Lib.hid (HX1.out.1.kept HY.out.2)
          have HXg : Hid (w.grownBy wk none) := Lib.hid (HX1.out.2.1.trans HY.out.2)
          obtain ⟨A2, c2, e2, _, _⟩ := HY.out.1.sl.form
          rw [xSq_length] at e2
          subst e2
          have HREP : Hid (Enc.rep (encS (encS encU)) (fun g => w.heap.size ≤ g ∧ some g ≠ u5.ownBlock) wk [.slice A2 i c2] (xSq l i k i)) := Lib.hid ⟨_, rfl, (HY.out.1.sl.fresh HX1.out.2.1 HX1.out.1)⟩
          have HLB : Hid (((xCube l i s).length + 1) * 24 ≤ 140737488355328) := Lib.hid (by rw [xCube_length]; omega)
          have HSN : Hid (xCube l i (s + 1) = xCube l i s ++ [xSq l i k i]) := Lib.hid (by rw [xCube_snoc, HK.out])
          have HKN : Hid (q = (s + 1) * (i * i)) := Lib.hid (by rw [HQ.out, HK.out, Nat.add_mul]; omega)
          clear hnT HY HS2
          go_wp2_with (at_builtin; refine wpList_pushG rfl (.tmp 53) (.tmp 55) rfl (E := encS (encS encU)) el_rows HXg.out HXa.out (fun _ h => h) HREP.out HLB.out rfl rfl ?_)
          intro v2 w2 hacc2 hg2 hgo
          have HFIN : Hid (Acc (encS (encS encU)) w.heap.size 28 (fun g => w.heap.size ≤ g) w2 v2 (xCube l i (s + 1)) ∧ w.grownBy w2 none ∧ Bk w2 w.heap.size 24 p.cells) := Lib.hid ⟨by rw [HSN.out]; exact hacc2, hg2, HBk.out.grown hgo (fun e => HXa.out.ne_bk HBk.out (by decide) e.symm)⟩
          clear hacc2 hg2 hgo hpr
          go_wp2_with fail
          go_roundg m
          case measure => omega
          case rel => exact ⟨s + 1, q, by omega, by go_num, rfl, HKN, HFIN⟩
        | succ m2 =>
          have hiT : (i : Int) ≤ (T : Int) := by omega
          have HQB : Hid (q ≤ 9000) := Lib.hid (by rw [HQ.out]; have := Nat.mul_le_mul (show i ≤ n by omega) (Nat.le_refl n); have := HNN.out; have := HKB.out; omega)
          have HS3 : Hid (Acc encU wk.heap.size 22 (fun g => wk.heap.size ≤ g) wk (.slice none 0 0) (xRow l q 0) ∧ wk.grownBy wk none) := Lib.hid ⟨Acc.nil _ _ _ _ _, World.grownBy.refl wk none⟩
          have H000 : Hid (q = q + 0) := Lib.hid rfl
          clear hnT
          go_wp2_with fail
          go_loopg [6, 10, 11] n (fun g s6 s10 s11 wx => ∃ j r : Nat, j + g = n ∧ s11 = .int .i64 j ∧ s6 = .int .i64 r ∧ Hid (r = q + j) ∧ Hid (Acc encU wk.heap.size 22 (fun g => wk.heap.size ≤ g) wx s10 (xRow l q j) ∧ wk.grownBy wx none))
          case atStart => exact ⟨0, q, by omega, rfl, rfl, H000, HS3⟩
          case round =>
            rename World => wi
            obtain ⟨j, r, hj, rfl, rfl, HR, HZ⟩ := hrel
            have hpr := (HBk.out.grown HZ.out.2 (by simp)).prule
            rw [HT.out] at hpr
            have hnT := HNT.out
            cases gk with
            | zero =>
              obtain rfl : j = n := by omega
              have hjT : ¬ ((j : Int) ≤ (T : Int)) := by omega
              have HYa : Hid (Acc (encS encU) w1.heap.size 25 (fun g => w1.heap.size ≤ g) wi u8 (xSq l j k i)) := Lib.hid (HY.out.1.kept HZ.out.2)
              have HYg : Hid (w1.grownBy wi none) := Lib.hid (HY.out.2.trans HZ.out.2)
              obtain ⟨A2, c2, e2, _, _⟩ := HZ.out.1.sl.form
              rw [xRow_length] at e2
              subst e2
              have HREP : Hid (Enc.rep (encS encU) (fun g => w1.heap.size ≤ g ∧ some g ≠ u8.ownBlock) wi [.slice A2 j c2] (xRow l q j)) := Lib.hid ⟨_, rfl, (HZ.out.1.sl.fresh HY.out.2 HY.out.1)⟩
              have HLB : Hid (((xSq l j k i).length + 1) * 24 ≤ 140737488355328) := Lib.hid (by rw [xSq_length]; omega)
              have HSN : Hid (xSq l j k (i + 1) = xSq l j k i ++ [xRow l q j]) := Lib.hid (by rw [xSq_snoc, HQ.out])
              have HKN : Hid (r = k + (i + 1) * j) := Lib.hid (by rw [HR.out, HQ.out, Nat.add_mul]; omega)
              clear hnT HZ HS3
              go_wp2_with (at_builtin; refine wpList_pushG rfl (.tmp 49) (.tmp 51) rfl (E := encS encU) el_nums HYg.out HYa.out (fun _ h => h) HREP.out HLB.out rfl rfl ?_)
              intro v2 w2 hacc2 hg2 hgo
              have HFIN : Hid (Acc (encS encU) w1.heap.size 25 (fun g => w1.heap.size ≤ g) w2 v2 (xSq l j k (i + 1)) ∧ w1.grownBy w2 none) := Lib.hid ⟨by rw [HSN.out]; exact hacc2, hg2⟩
              clear hacc2 hg2 hgo hpr
              go_wp2_with fail
              go_roundg m2
              case measure => omega
              case rel => exact ⟨i + 1, r, by omega, by go_num, rfl, HKN, HFIN⟩
            | succ m3 =>
              have hjT : (j : Int) ≤ (T : Int) := by omega
              have hr9 : (r : Int) ≤ 100000 := by have := HR.out; have := HQB.out; omega
              have hr0 : (0 : Int) ≤ (r : Int) := by omega
              have HUX := Lib.hid (xAt_U64 H.out r (by omega))
              have HSN : Hid (xRow l q (j + 1) = xRow l q j ++ [xAt l r]) := Lib.hid (by rw [xRow_snoc, HR.out])
              have HRN : Hid (r + 1 = q + (j + 1)) := Lib.hid (by rw [HR.out]; omega)
              have HLB : Hid (((xRow l q j).length + 1) * 8 ≤ 140737488355328) := Lib.hid (by rw [xRow_length]; omega)
              have HZa := Lib.hid HZ.out.1
              have HZg := Lib.hid HZ.out.2
              by_cases hl : 0 < l.length
              · have hll : (0 : Int) < (l.length : Int) := by omega
                have hkl := Nat.mod_lt r hl
                obtain ⟨g, o, c', e, _, _, hcu, _⟩ := (H.out.kept (HX1.out.2.1.trans (HY.out.2.trans HZ.out.2))).atU hkl
                injection e with e1 e2 e3
                subst e1 e3
                have hx : xAt l r = l[r % l.length] := by simp [xAt, hl, List.getElem?_eq_getElem hkl]
                rw [← hx] at hcu
                have hmod : ((r : Int) % (l.length : Int)) = ((r % l.length : Nat) : Int) := by simp
                have hk0 : (0 : Int) ≤ ((r % l.length : Nat) : Int) := by omega
                have hkL : ((r % l.length : Nat) : Int) < (l.length : Int) := by omega
                clear e2 hx
                generalize r % l.length = kk at *
                generalize xAt l r = xx at *
                clear hnT HZ
                go_wp2_with (at_builtin; refine wpList_pushG rfl (.tmp 45) (.tmp 47) rfl (E := encU) el_u64 HZg.out HZa.out (fun _ h => h) ⟨rfl, HUX.out⟩ HLB.out rfl rfl ?_)
                intro v2 w2 hacc2 hg2 hgo
                have HFIN : Hid (Acc encU wk.heap.size 22 (fun g => wk.heap.size ≤ g) w2 v2 (xRow l q (j + 1)) ∧ wk.grownBy w2 none) := Lib.hid ⟨by rw [HSN.out]; exact hacc2, hg2⟩
                clear hacc2 hg2 hgo hpr
                go_wp2_with fail
                go_roundg m3
                case measure => omega
                case rel => exact ⟨j + 1, r + 1, by omega, by go_num, by go_num, HRN, HFIN⟩
              · have hll : ¬ (0 : Int) < (l.length : Int) := by omega
                have hx : xAt l r = (r : Int) := by simp [xAt, hl]
                have HUX' : Hid (U64 (r : Int)) := Lib.hid (by rw [← hx]; exact HUX.out)
                rw [hx] at HSN
                clear hnT HZ HUX hx
                go_wp2_with (at_builtin; refine wpList_pushG rfl (.tmp 45) (.tmp 47) rfl (E := encU) el_u64 HZg.out HZa.out (fun _ h => h) ⟨rfl, HUX'.out⟩ HLB.out rfl rfl ?_)
                intro v2 w2 hacc2 hg2 hgo
                have HFIN : Hid (Acc encU wk.heap.size 22 (fun g => wk.heap.size ≤ g) w2 v2 (xRow l q (j + 1)) ∧ wk.grownBy w2 none) := Lib.hid ⟨by rw [HSN.out]; exact hacc2, hg2⟩
                clear hacc2 hg2 hgo hpr
                go_wp2_with fail
                go_roundg m3
                case measure => omega
                case rel => exact ⟨j + 1, r + 1, by omega, by go_num, by go_num, HRN, HFIN⟩
end Go.Proofs.YtmbbahlenanpfaaDoor

namespace Go.Proofs.YtmbbahlenanpfaaDoor
open Go.RowKit

def triedL : List Int := [2, 3, 5, 7, 11, 13, 17, 19, 23, 29, 31, 37]
/-- The two tables, where their variables lie. -/
def TabsAt (w : World) : Prop := (∀ j, j < Lib.deBruijn64tab.length → w.cell? ⟨1, j, none⟩ = some (.int .u8 (Lib.deBruijn64tab.getD j 0))) ∧ (∀ j, j < 12 → w.cell? ⟨0, j, none⟩ = some (.int .u64 (triedL.getD j 0)))
theorem TabsAt.drewN {w : World} (h : TabsAt w) (n : Nat) : TabsAt (w.drewN n) := h

set_option maxHeartbeats 400000 in
theorem tz64_core (x k idx : Nat) (w : World) (hx0 : ((x : Int) == 0) = false)
    (key : IntKind.u64.wrap (bits BinOp.and IntKind.u64 (x : Int) (IntKind.u64.wrap (-(x : Int))) * 285870213051353865) / 288230376151711744 = (idx : Int))
    (hi : idx < 64) (hk : k < 64) (hcell : w.cell? ⟨1, idx, none⟩ = some (.int .u8 k)) :
    Calls Tryd.prog 58 #[.int .u64 x] w fun e w' => e = .returned (.int .i64 k) ∧ w' = w := by
  go_enter Tryd.func58, Tryd.ntmps58
  go_wp2_with (simp only [key])
  go_ret
  exact ⟨rfl, rfl⟩

theorem tz64_key (x a : Nat) (hx : x < 18446744073709551616) (hx0 : x ≠ 0) (hlow : x &&& (18446744073709551616 - x) = a) :
    IntKind.u64.wrap (bits BinOp.and IntKind.u64 (x : Int) (IntKind.u64.wrap (-(x : Int))) * 285870213051353865) / 288230376151711744 = ((a * 285870213051353865 % 18446744073709551616 / 288230376151711744 : Nat) : Int) := by
  have e1 : IntKind.u64.wrap (-(x : Int)) = ((18446744073709551616 - x : Nat) : Int) := by rw [IntKind.wrap_u64]; omega
  rw [e1, bits_and_u64_nat x _ hx (by omega), hlow, IntKind.wrap_u64]
  omega

theorem tz64_any (x : Int) (w : World) (h0 : 0 < x) (h1 : x < 18446744073709551616) (hT : TabsAt w) :
    Calls Tryd.prog 58 #[.int .u64 x] w fun e w' => e = .returned (.int .i64 (Lib.ctz 64 x.toNat)) ∧ w' = w := by
  obtain ⟨n, rfl⟩ := Int.eq_ofNat_of_zero_le (show 0 ≤ x by omega)
  rw [Int.toNat_natCast]
  have hx0 : n ≠ 0 := by omega
  have hx : n < 18446744073709551616 := by omega
  obtain ⟨hlow, hk⟩ := Lib.lowest_bit 64 n hx0 hx
  obtain ⟨hi, htab⟩ := Lib.deBruijn64_at _ hk
  have hcell := hT.1 _ hi
  rw [htab] at hcell
  exact tz64_core n _ _ w (by simp; omega) (tz64_key n _ hx hx0 hlow) hi hk hcell

/-- Squares until n - 1 is met. -/
def witB (n : Int) : Nat → Int → Bool
  | 0, _ => false
  | k + 1, x => x == n - 1 || witB n k (mulI x x n)
def passB (n a : Int) (t : Nat) : Bool := powI a ((n - 1) / 2 ^ t) n == 1 || witB n t (powI a ((n - 1) / 2 ^ t) n)
def goB (n : Int) (t : Nat) : List Int → Bool
  | [] => true
  | a :: l => if n % a = 0 then decide (n = a) else if passB n a t then goB n t l else false
def primeB (n : Int) : Bool := if n < 2 ∨ 2305843009213693952 < n then false else goB n (Lib.ctz 64 (n - 1).toNat) triedL

set_option maxHeartbeats 400000 in
theorem prime_out (n : Int) (w : World) (h : n < 2 ∨ 2305843009213693952 < n) :
    Calls Tryd.prog 37 #[.int .u64 n] w fun e w' => e = .returned (.bool false) ∧ ∃ k, w' = w.drewN k := by
  by_cases h2 : n < 2
  · clear h
    have h2' : decide (n < 2) = true := by simpa using h2
    go_enter Tryd.func37, Tryd.ntmps37
    go_wp2
    go_step3
    go_wp2
    (try rw [Exit.noGoto_ret])
    go_ret
    exact ⟨rfl, 0, rfl⟩
  · have h2' : decide (n < 2) = false := by simpa using h2
    have h3 : 2305843009213693952 < n := h.resolve_left h2
    have h3' : decide (2305843009213693952 < n) = true := by simpa using h3
    clear h
    go_enter Tryd.func37, Tryd.ntmps37
    go_wp2
    go_step3
    go_wp2
    (try rw [Exit.noGoto_ret])
    go_ret
    exact ⟨rfl, 0, rfl⟩

theorem powI_U64 (a e m : Int) : U64 (powI a e m) := by
  cases hm : mayB m with
  | false => simp [powI, hm, U64]
  | true =>
    simp only [powI, hm, if_true]
    simp [mayB] at hm
    have := emod_bd (a ^ e.toNat) m hm.1
    unfold U64
    omega
/-- The k-th of the numbers: what it is, and how the walk reads it. -/
theorem tried_at : ∀ k : Nat, k < 12 → ∃ p : Int, triedL.drop k = p :: triedL.drop (k + 1) ∧ 2 ≤ p ∧ p ≤ 37 ∧
    ∀ w, (Instr.index 82 (.agg #[.int .u64 2, .int .u64 3, .int .u64 5, .int .u64 7, .int .u64 11, .int .u64 13, .int .u64 17, .int .u64 19, .int .u64 23, .int .u64 29, .int .u64 31, .int .u64 37]) (.int .i64 k)).run Tryd.prog w = .ok (.int .u64 p) w := by
  intro k hk
  match k, hk with
  | 0, _ => exact ⟨2, rfl, by decide, by decide, fun _ => by kernel_rfl⟩
  | 1, _ => exact ⟨3, rfl, by decide, by decide, fun _ => by kernel_rfl⟩
  | 2, _ => exact ⟨5, rfl, by decide, by decide, fun _ => by kernel_rfl⟩
  | 3, _ => exact ⟨7, rfl, by decide, by decide, fun _ => by kernel_rfl⟩
  | 4, _ => exact ⟨11, rfl, by decide, by decide, fun _ => by kernel_rfl⟩
  | 5, _ => exact ⟨13, rfl, by decide, by decide, fun _ => by kernel_rfl⟩
  | 6, _ => exact ⟨17, rfl, by decide, by decide, fun _ => by kernel_rfl⟩
  | 7, _ => exact ⟨19, rfl, by decide, by decide, fun _ => by kernel_rfl⟩
  | 8, _ => exact ⟨23, rfl, by decide, by decide, fun _ => by kernel_rfl⟩
  | 9, _ => exact ⟨29, rfl, by decide, by decide, fun _ => by kernel_rfl⟩
  | 10, _ => exact ⟨31, rfl, by decide, by decide, fun _ => by kernel_rfl⟩
  | 11, _ => exact ⟨37, rfl, by decide, by decide, fun _ => by kernel_rfl⟩

set_option maxHeartbeats 400000 in
theorem prime_in (n : Int) (w : World) (h2 : 2 ≤ n) (h3 : n ≤ 2305843009213693952) (hT : TabsAt w) :
    Calls Tryd.prog 37 #[.int .u64 n] w fun e w' => e = .returned (.bool (goB n (Lib.ctz 64 (n - 1).toNat) triedL)) ∧ ∃ k, w' = w.drewN k := by
  have h2' : decide (n < 2) = false := by simp; omega
  have h3' : decide (2305843009213693952 < n) = false := by simp; omega
  have HT := Lib.hid hT
  obtain ⟨t, ht⟩ : ∃ t, t = Lib.ctz 64 (n - 1).toNat := ⟨_, rfl⟩
  have ht64 : t < 64 := by rw [ht]; exact (Lib.lowest_bit 64 (n - 1).toNat (by omega) (by omega)).2
  have HZ := Lib.hid (tz64_any (n - 1) w (by omega) (by omega) hT)
  rw [← ht] at HZ ⊢
  clear ht hT
  go_enter Tryd.func37, Tryd.ntmps37
  go_wp2
  go_step3
  go_wp2_with fail
  refine HZ.out.mono ?_
  rintro e w' ⟨rfl, hw'⟩
  rw [hw']
  clear hw'
  go_wp2_with fail
  go_step3
  have k0 : w.cell? ⟨0, 0, none⟩ = some (.int .u64 2) := HT.out.2 0 (by decide)
  have k1 : w.cell? ⟨0, 1, none⟩ = some (.int .u64 3) := HT.out.2 1 (by decide)
  have k2 : w.cell? ⟨0, 2, none⟩ = some (.int .u64 5) := HT.out.2 2 (by decide)
  have k3 : w.cell? ⟨0, 3, none⟩ = some (.int .u64 7) := HT.out.2 3 (by decide)
  have k4 : w.cell? ⟨0, 4, none⟩ = some (.int .u64 11) := HT.out.2 4 (by decide)
  have k5 : w.cell? ⟨0, 5, none⟩ = some (.int .u64 13) := HT.out.2 5 (by decide)
  have k6 : w.cell? ⟨0, 6, none⟩ = some (.int .u64 17) := HT.out.2 6 (by decide)
  have k7 : w.cell? ⟨0, 7, none⟩ = some (.int .u64 19) := HT.out.2 7 (by decide)
  have k8 : w.cell? ⟨0, 8, none⟩ = some (.int .u64 23) := HT.out.2 8 (by decide)
  have k9 : w.cell? ⟨0, 9, none⟩ = some (.int .u64 29) := HT.out.2 9 (by decide)
  have k10 : w.cell? ⟨0, 10, none⟩ = some (.int .u64 31) := HT.out.2 10 (by decide)
  have k11 : w.cell? ⟨0, 11, none⟩ = some (.int .u64 37) := HT.out.2 11 (by decide)
  go_wp2_with fail
  clear k0 k1 k2 k3 k4 k5 k6 k7 k8 k9 k10 k11
  go_loopg [17] 12 (fun g s17 wx => ∃ k : Nat, k + g = 12 ∧ s17 = .int .i64 k ∧ Hid (goB n t (triedL.drop k) = goB n t triedL) ∧ ∃ q, wx = w.drewN q)
  case atStart => exact ⟨0, rfl, rfl, Lib.hid rfl, 0, rfl⟩
  case round =>
    obtain ⟨k, hkg, rfl, HG, q, rfl⟩ := hrel
    cases gk with
    | zero =>
      obtain rfl : k = 12 := by omega
      have HE : Hid (true = goB n t triedL) := Lib.hid HG.out
      go_wp2
      (try rw [Exit.noGoto_ret])
      go_ret
      exact ⟨congrArg Ending.returned (congrArg Value.bool HE.out), _, rfl⟩
    | succ g =>
      have hk : k < 12 := by omega
      obtain ⟨p, hd, hp2, hp37, hidx⟩ := tried_at k hk
      have HG2 : Hid (goB n t (p :: triedL.drop (k + 1)) = goB n t triedL) := Lib.hid (by rw [← hd]; exact HG.out)
      clear HG hd
      by_cases hdv : n % p = 0
      · have HE : Hid ((n == p) = goB n t triedL) := Lib.hid (by rw [← HG2.out]; simp only [goB, hdv, if_true]; rfl)
        go_wp2
        (try rw [Exit.noGoto_ret])
        go_ret
        exact ⟨congrArg Ending.returned (congrArg Value.bool HE.out), _, rfl⟩
      · have hdv' : (n % p == 0) = false := by simpa using hdv
        have e0 : 0 ≤ (n - 1) / 2 ^ t := Int.ediv_nonneg (by omega) (Int.le_of_lt (Int.pow_pos (by decide)))
        have e1 : (n - 1) / 2 ^ t ≤ n - 1 := Int.ediv_le_self _ (by omega)
        have HP := Lib.hid (fun w => pow_any p ((n - 1) / 2 ^ t) n w ⟨by omega, by omega⟩ ⟨e0, by omega⟩)
        have hG3 := HG2.out
        simp only [goB, hdv, if_false] at hG3
        have HX := powI_U64 p ((n - 1) / 2 ^ t) n
        unfold passB at hG3
        generalize powI p ((n - 1) / 2 ^ t) n = x0 at HP hG3 HX
        have HU := Lib.hid HX
        clear HX hdv HG2
        by_cases hx1 : x0 = 1
        · have HN : Hid (goB n t (triedL.drop (k + 1)) = goB n t triedL) := Lib.hid (by rw [← hG3]; simp [hx1])
          clear hG3
          have hx1' : (x0 == 1) = true := by simpa using hx1
          clear hx1
          go_wp2_with fail
          refine (HP.out _).mono ?_
          rintro e w' ⟨rfl, n1, rfl⟩
          go_wp2
          go_roundg g
          case measure => omega
          case rel => exact ⟨k + 1, by omega, by go_num, HN, _, rfl⟩
        · have hx1' : (x0 == 1) = false := by simpa using hx1
          have HN : Hid ((if witB n t x0 then goB n t (triedL.drop (k + 1)) else false) = goB n t triedL) := Lib.hid (by rw [← hG3]; simp [hx1'])
          clear hG3 hx1
          go_wp2_with fail
          refine (HP.out _).mono ?_
          rintro e w' ⟨rfl, n1, rfl⟩
          go_wp2_with fail
          clear hidx
          go_loopg [6, 37] t (fun h s6 s37 wx => ∃ (x : Int) (j : Nat), j + h = t ∧ s6 = .int .u64 x ∧ Hid (U64 x) ∧ s37 = .int .i64 j ∧ Hid (witB n h x = witB n t x0) ∧ ∃ q, wx = w.drewN q)
          case atStart => exact ⟨x0, 0, by omega, rfl, HU, rfl, Lib.hid rfl, _, rfl⟩
          case round =>
            obtain ⟨x, j, hj, rfl, hx, rfl, hW, q2, rfl⟩ := hrel
            cases gk with
            | zero =>
              obtain rfl : j = t := by omega
              have HE : Hid (false = goB n j triedL) := Lib.hid (by
                have := HN.out
                rw [← hW.out] at this
                simpa [witB] using this)
              go_wp2
              (try rw [Exit.noGoto_ret])
              go_ret
              exact ⟨congrArg Ending.returned (congrArg Value.bool HE.out), _, rfl⟩
            | succ h =>
              have hjt : (j : Int) < (t : Int) := by omega
              by_cases hxn : x = n - 1
              · have HE : Hid (goB n t (triedL.drop (k + 1)) = goB n t triedL) := Lib.hid (by
                  have := HN.out
                  rw [← hW.out] at this
                  simpa [witB, hxn] using this)
                have hxn' : (x == n - 1) = true := by simpa using hxn
                clear hxn hx1'
                go_wp2
                go_roundg g
                case measure => omega
                case rel => exact ⟨k + 1, by omega, by go_num, HE, _, rfl⟩
              · have hxn' : (x == n - 1) = false := by simpa using hxn
                have HW2 : Hid (witB n h (mulI x x n) = witB n t x0) := Lib.hid (by
                  have := hW.out
                  simpa [witB, hxn'] using this)
                have HX2 := Lib.hid (mulI_U64 x x n)
                clear hxn
                go_wp2_with fail
                refine (mul_any x x n _ hx.out hx.out).mono ?_
                rintro e w' ⟨rfl, n2, rfl⟩
                go_wp2
                go_roundg h
                case measure => omega
                case rel => exact ⟨mulI x x n, j + 1, by omega, rfl, HX2, by go_num, HW2, _, rfl⟩

theorem prime_any (n : Int) (w : World) (hT : TabsAt w) :
    Calls Tryd.prog 37 #[.int .u64 n] w fun e w' => e = .returned (.bool (primeB n)) ∧ ∃ k, w' = w.drewN k := by
  by_cases h : n < 2 ∨ 2305843009213693952 < n
  · rw [show primeB n = false by simp only [primeB, if_pos h]]
    exact prime_out n w h
  · rw [show primeB n = goB n (Lib.ctz 64 (n - 1).toNat) triedL by simp only [primeB, if_neg h]]
    exact prime_in n w (by omega) (by omega) hT
end Go.Proofs.YtmbbahlenanpfaaDoor

namespace Go.Proofs.YtmbbahlenanpfaaDoor
open Go.ChangeShapes Go.WideShapes Go.RowKit

theorem u64_wf {a : Int} (h : (Lit.int .u64 a).wf = true) : U64 a := by
  have := bounds_u64 h
  unfold U64
  omega
theorem i64_wf {a : Int} (h : (Lit.int .i64 a).wf = true) : I64 a := by
  have := bounds_i64 h
  unfold I64
  omega
/-- Whatever is read at this type reads so. -/
def Reads {α : Type} (E : Enc α) (t : TypeId) : Prop :=
  ∀ {H : Type} {enc : TypeId × Value → H} {w : World} {base : Nat} {spare : Nat → Bool} {held : Bool} {fuel : Nat} {cs : List Value} {x : DataW H × List MemPlace},
    DataW.trod enc Tryd.prog w base spare held fuel t cs = some x → ∃ a, E.rep (fun _ => True) w cs a
theorem reads_u64 {t : TypeId} (ht : Tryd.prog.underlying t = some (.int .u64)) : Reads encU t := by
  intro H enc w base spare held fuel cs x h
  obtain ⟨n, rfl, _, hw⟩ := DataW.trod_int ht h
  exact ⟨n, rfl, u64_wf hw⟩
theorem reads_i64 {t : TypeId} (ht : Tryd.prog.underlying t = some (.int .i64)) : Reads encI t := by
  intro H enc w base spare held fuel cs x h
  obtain ⟨n, rfl, _, hw⟩ := DataW.trod_int ht h
  exact ⟨n, rfl, i64_wf hw⟩
theorem reads_pair {t u : TypeId} {f0 f1 : Field} (ht : Tryd.prog.underlying t = some (.struct #[f0, f1])) (h0 : f0.type = u ∧ f0.offset = 0) (h1 : f1.type = u ∧ f1.offset = 1)
    (hu : Tryd.prog.underlying u = some (.int .u64)) (hc : Tryd.prog.cellsOf t = 2) (hcu : Tryd.prog.cellsOf u = 1) : Reads encP t := by
  intro H enc w base spare held fuel cs x h
  obtain ⟨y0, y1, n, _, hl, e0, e1⟩ := trod_struct2 ht h
  rw [h0.1, h0.2, hcu] at e0
  rw [h1.1, h1.2, hcu] at e1
  obtain ⟨a, ea, _, wa⟩ := DataW.trod_int hu e0
  obtain ⟨b, eb, _, wb⟩ := DataW.trod_int hu e1
  rw [hc] at hl
  match cs, hl with
  | [c0, c1], _ =>
    simp at ea eb
    subst ea eb
    exact ⟨(a, b), rfl, u64_wf wa, u64_wf wb⟩
theorem reads_sl {α : Type} {E : Enc α} {t e : TypeId} (ht : Tryd.prog.underlying t = some (.slice e)) (hE : Reads E e) (hc : Tryd.prog.cellsOf e = E.size) : Reads (encS E) t := by
  intro H enc w base spare held fuel cs x h
  rcases Go.Deep.open_slice ht h with ⟨rfl, _⟩ | ⟨a, len, cap, m, n, D, Pl, rfl, _, hl, hm, hmm, _, hi⟩
  · exact ⟨[], _, rfl, Sl.nil _ _ _⟩
  · have hlm : len ≤ m := by rw [hmm]; split <;> omega
    have key : ∀ i, i < len → ∃ y, ∃ cs', E.rep (fun _ => True) w cs' y ∧ ∀ j, j < E.size → w.cell? (a.add (i * E.size + j)) = cs'[j]? := by
      intro i hil
      obtain ⟨cs', hcell, htr⟩ := hi i (by omega)
      obtain ⟨y, hy⟩ := hE htr
      obtain ⟨_, hlen, hat⟩ := World.cells?_some hcell
      rw [hc] at hat
      refine ⟨y, cs', hy, fun j hj => ?_⟩
      rw [← hat j hj, Go.Deep.add_add]
    have hcz : ∃ f : Fin len → α, ∀ i : Fin len, ∃ cs', E.rep (fun _ => True) w cs' (f i) ∧ ∀ j, j < E.size → w.cell? (a.add (i.1 * E.size + j)) = cs'[j]? :=
      ⟨fun i => Classical.choose (key i.1 i.2), fun i => Classical.choose_spec (key i.1 i.2)⟩
    obtain ⟨f, hf⟩ := hcz
    have hlen : (List.ofFn f).length = len := List.length_ofFn
    refine ⟨List.ofFn f, _, rfl, some a, cap, by rw [hlen], by omega, by unfold maxLen at hm; omega, fun hn => ?_⟩
    have hpos : 0 < len := by rw [← hlen]; exact List.length_pos_iff.2 hn
    obtain ⟨cs0, hr0, hc0⟩ := hf ⟨0, hpos⟩
    have h00 := hc0 0 E.pos
    have hl0 := E.len hr0
    rw [List.getElem?_eq_getElem (by rw [hl0]; exact E.pos)] at h00
    obtain ⟨g, o, sp⟩ := a
    have hsp : sp = none := by simpa [Addr.add] using World.cell?_spot h00
    subst hsp
    have h00' : w.cell? ⟨g, o, none⟩ = some (cs0[0]'(by rw [hl0]; exact E.pos)) := by simpa [Addr.add] using h00
    have hgl : g < w.heap.size := by
      rcases Nat.lt_or_ge g w.heap.size with hlt | hge
      · exact hlt
      · simp [World.cell?, Array.getElem?_eq_none hge] at h00'
    refine ⟨g, o, rfl, hgl, trivial, fun i hi' => ?_⟩
    obtain ⟨cs', hr', hc'⟩ := hf ⟨i, by omega⟩
    refine ⟨cs', by simpa using hr', fun j u hu => ?_⟩
    have hj : j < E.size := by
      rw [← E.len hr']
      exact (List.getElem?_eq_some_iff.1 hu).1
    rw [← hu, ← hc' j hj]
    have : (⟨g, o, none⟩ : Addr).add (i * E.size + j) = ⟨g, o + i * E.size + j, none⟩ := by
      unfold Addr.add
      split
      · rename_i h0
        have : i * E.size + j = 0 := by simpa using h0
        rw [show o + i * E.size + j = o by omega]
      · rw [Nat.add_assoc]
    rw [this]
/-- A slice that came in as an argument. -/
theorem open_sl {α : Type} {E : Enc α} {t : TypeId} (hR : Reads (encS E) t) {H : Type} {enc : TypeId × Value → H} {w : World} {base : Nat} {spare : Nat → Bool} {held : Bool} {a : Option Addr} {len cap : Nat} {d : DataW H} {p : List MemPlace}
    (h : DataW.Trod enc Tryd.prog w base spare held t (.slice a len cap) d p) : ∃ xs, Sl E (fun _ => True) w (.slice a len cap) xs := by
  obtain ⟨fuel, hf⟩ := h
  obtain ⟨xs, v, e, hs⟩ := hR hf
  simp [Value.cells] at e
  exact ⟨xs, by rw [e]; exact hs⟩
end Go.Proofs.YtmbbahlenanpfaaDoor

namespace Go.Proofs.YtmbbahlenanpfaaDoor
open Go.RowKit

def withinB (x lo hi : Int) : Bool := decide (lo ≤ x) && decide (x ≤ hi)
theorem withinB_iff (x lo hi : Int) : withinB x lo hi = true ↔ lo ≤ x ∧ x ≤ hi := by simp [withinB]
set_option maxHeartbeats 400000 in
theorem within_eq (x lo hi : Int) (b : Bool) (h : withinB x lo hi = b) (w : World) :
    Calls Tryd.prog 29 #[.int .i64 x, .int .i64 lo, .int .i64 hi] w fun e w' => e = .returned (.bool b) ∧ w' = w := by
  subst h
  by_cases h1 : lo ≤ x
  · by_cases h2 : x ≤ hi
    · have HE : Hid (withinB x lo hi = true) := Lib.hid (by simp [withinB, h1, h2])
      go_enter Tryd.func29, Tryd.ntmps29
      go_wp2
      go_ret
      exact ⟨ret_bool HE.out.symm, rfl⟩
    · have HE : Hid (withinB x lo hi = false) := Lib.hid (by simp [withinB, h2])
      have h2' : decide (x ≤ hi) = false := by simpa using h2
      clear h2
      go_enter Tryd.func29, Tryd.ntmps29
      go_wp2
      go_ret
      exact ⟨ret_bool HE.out.symm, rfl⟩
  · have HE : Hid (withinB x lo hi = false) := Lib.hid (by simp [withinB, h1])
    have h1' : decide (lo ≤ x) = false := by simpa using h1
    clear h1
    go_enter Tryd.func29, Tryd.ntmps29
    go_wp2
    go_ret
    exact ⟨ret_bool HE.out.symm, rfl⟩

def m1 (p : Par) : Bool := decide (2 ≤ p.P) && decide (p.P ≤ 2305843009213693952) && decide (2 ≤ p.Q) && ((p.P - 1) % p.Q == 0)
def m2 (p : Par) : Bool := withinB p.T 1 2
def m3 (p : Par) : Bool := withinB p.N (3 * p.T + 1) 7 && decide (p.N < p.Q)
def m4 (p : Par) : Bool := withinB p.Nodes p.N 8
def m5 (p : Par) : Bool := withinB p.K 1 2 && withinB p.D 1 4
def m6 (p : Par) : Bool := withinB p.R 1 p.D
def m7 (p : Par) : Bool := withinB p.M 1 1048576 && withinB p.X 1 1048576
def m8 (p : Par) : Bool := decide (2 * (p.D * p.M * p.X + p.M) < p.Q)
def m9 (p : Par) : Bool := primeB p.Q && primeB p.P
def m10 (p : Par) : Bool := decide (p.G ≠ 1) && isB p p.G && decide (p.H ≠ 1) && isB p p.H
def mayP (p : Par) : Bool := m1 p && m2 p && m3 p && m4 p && m5 p && m6 p && m7 p && m8 p && m9 p && m10 p

set_option maxHeartbeats 400000 in
theorem may_1 (p : Par) (g : Nat) (w : World) (hp : p.ok) (hb : Bk w g 24 p.cells) :
    Calls Tryd.prog 27 #[.pointer (some ⟨g, 0, none⟩)] w fun e w' => e = .returned (.bool (m1 p)) ∧ w.grownBy w' none := by
  have hc := hb.prule
  obtain ⟨p0, p1⟩ := hp.P
  obtain ⟨q0, q1⟩ := hp.Q
  clear hb hp
  by_cases h1 : 2 ≤ p.P
  · by_cases h2 : p.P ≤ 2305843009213693952
    · by_cases h3 : 2 ≤ p.Q
      · have HE : Hid (m1 p = ((p.P - 1) % p.Q == 0)) := Lib.hid (by simp [m1, h1, h2, h3])
        go_enter Tryd.func27, Tryd.ntmps27
        go_wp2
        go_ret
        exact ⟨ret_bool HE.out.symm, World.grownBy.refl w none⟩
      · have HE : Hid (m1 p = false) := Lib.hid (by simp [m1, h3])
        have h3' : decide (2 ≤ p.Q) = false := by simpa using h3
        clear h3
        go_enter Tryd.func27, Tryd.ntmps27
        go_wp2
        go_ret
        exact ⟨ret_bool HE.out.symm, World.grownBy.refl w none⟩
    · have HE : Hid (m1 p = false) := Lib.hid (by simp [m1, h2])
      have h2' : decide (p.P ≤ 2305843009213693952) = false := by simpa using h2
      clear h2
      go_enter Tryd.func27, Tryd.ntmps27
      go_wp2
      go_ret
      exact ⟨ret_bool HE.out.symm, World.grownBy.refl w none⟩
  · have HE : Hid (m1 p = false) := Lib.hid (by simp [m1, h1])
    have h1' : decide (2 ≤ p.P) = false := by simpa using h1
    clear h1
    go_enter Tryd.func27, Tryd.ntmps27
    go_wp2
    go_ret
    exact ⟨ret_bool HE.out.symm, World.grownBy.refl w none⟩
set_option maxHeartbeats 400000 in
theorem may_2 (p : Par) (g : Nat) (w : World) (hb : Bk w g 24 p.cells) :
    Calls Tryd.prog 28 #[.pointer (some ⟨g, 0, none⟩)] w fun e w' => e = .returned (.bool (m2 p)) ∧ w.grownBy w' none := by
  have hc := hb.prule
  have HW := Lib.hid (fun w => within_eq p.T 1 2 _ rfl w)
  clear hb
  go_enter Tryd.func28, Tryd.ntmps28
  go_wp2_with fail
  refine (HW.out _).mono ?_
  rintro e w' ⟨rfl, rfl⟩
  go_wp2
  go_ret
  exact ⟨rfl, World.grownBy.refl _ none⟩
set_option maxHeartbeats 400000 in
theorem may_3 (p : Par) (g : Nat) (w : World) (hp : p.ok) (hb : Bk w g 24 p.cells) (h2 : m2 p = true) :
    Calls Tryd.prog 30 #[.pointer (some ⟨g, 0, none⟩)] w fun e w' => e = .returned (.bool (m3 p)) ∧ w.grownBy w' none := by
  have hc := hb.prule
  obtain ⟨t0, t1⟩ := (withinB_iff _ _ _).1 h2
  obtain ⟨q0, q1⟩ := hp.Q
  clear hb hp h2
  cases hN : withinB p.N (3 * p.T + 1) 7 with
  | true =>
    obtain ⟨n0, n1⟩ := (withinB_iff _ _ _).1 hN
    have HW := Lib.hid (fun w => within_eq p.N (3 * p.T + 1) 7 _ hN w)
    have HE : Hid (m3 p = decide (p.N < p.Q)) := Lib.hid (by simp [m3, hN])
    clear hN
    go_enter Tryd.func30, Tryd.ntmps30
    go_wp2_with fail
    refine (HW.out _).mono ?_
    rintro e w' ⟨rfl, rfl⟩
    go_wp2
    go_ret
    exact ⟨ret_bool HE.out.symm, World.grownBy.refl _ none⟩
  | false =>
    have HW := Lib.hid (fun w => within_eq p.N (3 * p.T + 1) 7 _ hN w)
    have HE : Hid (m3 p = false) := Lib.hid (by simp [m3, hN])
    clear hN
    go_enter Tryd.func30, Tryd.ntmps30
    go_wp2_with fail
    refine (HW.out _).mono ?_
    rintro e w' ⟨rfl, rfl⟩
    go_wp2
    go_ret
    exact ⟨ret_bool HE.out.symm, World.grownBy.refl _ none⟩
set_option maxHeartbeats 400000 in
theorem may_4 (p : Par) (g : Nat) (w : World) (hb : Bk w g 24 p.cells) :
    Calls Tryd.prog 31 #[.pointer (some ⟨g, 0, none⟩)] w fun e w' => e = .returned (.bool (m4 p)) ∧ w.grownBy w' none := by
  have hc := hb.prule
  have HW := Lib.hid (fun w => within_eq p.Nodes p.N 8 _ rfl w)
  clear hb
  go_enter Tryd.func31, Tryd.ntmps31
  go_wp2_with fail
  refine (HW.out _).mono ?_
  rintro e w' ⟨rfl, rfl⟩
  go_wp2
  go_ret
  exact ⟨rfl, World.grownBy.refl _ none⟩
set_option maxHeartbeats 400000 in
theorem may_5 (p : Par) (g : Nat) (w : World) (hb : Bk w g 24 p.cells) :
    Calls Tryd.prog 32 #[.pointer (some ⟨g, 0, none⟩)] w fun e w' => e = .returned (.bool (m5 p)) ∧ w.grownBy w' none := by
  have hc := hb.prule
  clear hb
  cases hN : withinB p.K 1 2 with
  | true =>
    have HW := Lib.hid (fun w => within_eq p.K 1 2 _ hN w)
    have HV := Lib.hid (fun w => within_eq p.D 1 4 _ rfl w)
    have HE : Hid (m5 p = withinB p.D 1 4) := Lib.hid (by simp [m5, hN])
    clear hN
    go_enter Tryd.func32, Tryd.ntmps32
    go_wp2_with fail
    refine (HW.out _).mono ?_
    rintro e w' ⟨rfl, rfl⟩
    go_wp2_with fail
    refine (HV.out _).mono ?_
    rintro e w' ⟨rfl, rfl⟩
    go_wp2
    go_ret
    exact ⟨ret_bool HE.out.symm, World.grownBy.refl _ none⟩
  | false =>
    have HW := Lib.hid (fun w => within_eq p.K 1 2 _ hN w)
    have HE : Hid (m5 p = false) := Lib.hid (by simp [m5, hN])
    clear hN
    go_enter Tryd.func32, Tryd.ntmps32
    go_wp2_with fail
    refine (HW.out _).mono ?_
    rintro e w' ⟨rfl, rfl⟩
    go_wp2
    go_ret
    exact ⟨ret_bool HE.out.symm, World.grownBy.refl _ none⟩
set_option maxHeartbeats 400000 in
theorem may_6 (p : Par) (g : Nat) (w : World) (hb : Bk w g 24 p.cells) :
    Calls Tryd.prog 33 #[.pointer (some ⟨g, 0, none⟩)] w fun e w' => e = .returned (.bool (m6 p)) ∧ w.grownBy w' none := by
  have hc := hb.prule
  have HW := Lib.hid (fun w => within_eq p.R 1 p.D _ rfl w)
  clear hb
  go_enter Tryd.func33, Tryd.ntmps33
  go_wp2_with fail
  refine (HW.out _).mono ?_
  rintro e w' ⟨rfl, rfl⟩
  go_wp2
  go_ret
  exact ⟨rfl, World.grownBy.refl _ none⟩
set_option maxHeartbeats 400000 in
theorem may_7 (p : Par) (g : Nat) (w : World) (hb : Bk w g 24 p.cells) :
    Calls Tryd.prog 34 #[.pointer (some ⟨g, 0, none⟩)] w fun e w' => e = .returned (.bool (m7 p)) ∧ w.grownBy w' none := by
  have hc := hb.prule
  clear hb
  cases hN : withinB p.M 1 1048576 with
  | true =>
    have HW := Lib.hid (fun w => within_eq p.M 1 1048576 _ hN w)
    have HV := Lib.hid (fun w => within_eq p.X 1 1048576 _ rfl w)
    have HE : Hid (m7 p = withinB p.X 1 1048576) := Lib.hid (by simp [m7, hN])
    clear hN
    go_enter Tryd.func34, Tryd.ntmps34
    go_wp2_with fail
    refine (HW.out _).mono ?_
    rintro e w' ⟨rfl, rfl⟩
    go_wp2_with fail
    refine (HV.out _).mono ?_
    rintro e w' ⟨rfl, rfl⟩
    go_wp2
    go_ret
    exact ⟨ret_bool HE.out.symm, World.grownBy.refl _ none⟩
  | false =>
    have HW := Lib.hid (fun w => within_eq p.M 1 1048576 _ hN w)
    have HE : Hid (m7 p = false) := Lib.hid (by simp [m7, hN])
    clear hN
    go_enter Tryd.func34, Tryd.ntmps34
    go_wp2_with fail
    refine (HW.out _).mono ?_
    rintro e w' ⟨rfl, rfl⟩
    go_wp2
    go_ret
    exact ⟨ret_bool HE.out.symm, World.grownBy.refl _ none⟩
theorem mul_bd (a b x y : Int) (ha0 : 0 ≤ a) (ha : a ≤ x) (hb0 : 0 ≤ b) (hb : b ≤ y) : 0 ≤ a * b ∧ a * b ≤ x * y :=
  ⟨Int.mul_nonneg ha0 hb0, Int.mul_le_mul ha hb hb0 (by omega)⟩
set_option maxHeartbeats 400000 in
theorem may_8 (p : Par) (g : Nat) (w : World) (hp : p.ok) (hb : Bk w g 24 p.cells) (h5 : m5 p = true) (h7 : m7 p = true) :
    Calls Tryd.prog 35 #[.pointer (some ⟨g, 0, none⟩)] w fun e w' => e = .returned (.bool (m8 p)) ∧ w.grownBy w' none := by
  have hc := hb.prule
  simp only [m5, m7, Bool.and_eq_true, withinB_iff] at h5 h7
  obtain ⟨_, d0, d1⟩ := h5
  obtain ⟨⟨a0, a1⟩, x0, x1⟩ := h7
  obtain ⟨q0, q1⟩ := hp.Q
  obtain ⟨e0, e1⟩ := mul_bd p.D p.M 4 1048576 (by omega) d1 (by omega) a1
  obtain ⟨f0, f1⟩ := mul_bd (p.D * p.M) p.X (4 * 1048576) 1048576 e0 e1 (by omega) x1
  have HE : Hid (m8 p = decide (2 * (p.D * p.M * p.X + p.M) < p.Q)) := Lib.hid rfl
  clear hb hp
  go_enter Tryd.func35, Tryd.ntmps35
  go_wp2
  go_ret
  exact ⟨ret_bool HE.out.symm, World.grownBy.refl _ none⟩
end Go.Proofs.YtmbbahlenanpfaaDoor

namespace Go.Proofs.YtmbbahlenanpfaaDoor
open Go.RowKit

theorem m_may (P : Int) (h1 : 1 ≤ P) (h2 : P ≤ 2305843009213693952) : mayB P = true := by simp [mayB]; omega
theorem may_bds {m : Int} (h : mayB m = true) : 0 < m ∧ m ≤ 2305843009213693952 := by simpa [mayB] using h
theorem times_nil_eq (P : Int) (hm : mayB P = true) : timesI P [] = 1 % P := by
  show mulI 1 1 P = _
  rw [mulI_yes _ _ _ hm, Int.mul_one]
theorem times_two_eq (P a b : Int) (hm : mayB P = true) : timesI P [a, b] = a * b % P := by
  show mulI (mulI (mulI 1 1 P) a P) b P = _
  rw [mulI_yes _ _ _ hm, mulI_yes _ _ _ hm, mulI_yes _ _ _ hm, Int.mul_one]
  exact ((Cg.mod P _).trans ((Cg.mod P 1).mul_right a |>.trans (Cg.of_eq (Int.one_mul a)))).mul_right b
theorem times_two_cg (P a b : Int) (hm : mayB P = true) : Cg P (timesI P [a, b]) (a * b) := by
  rw [times_two_eq _ _ _ hm]
  exact Cg.mod _ _
theorem powI_yes (a e P : Int) (hm : mayB P = true) : powI a e P = a ^ e.toNat % P := by simp [powI, hm]
theorem powI_cg (a e P : Int) (hm : mayB P = true) : Cg P (powI a e P) (a ^ e.toNat) := by
  rw [powI_yes _ _ _ hm]
  exact Cg.mod _ _
theorem powI_base {a b e P : Int} (hm : mayB P = true) (h : Cg P a b) : powI a e P = powI b e P := by
  rw [powI_yes _ _ _ hm, powI_yes _ _ _ hm]
  exact h.pow _
/-- What two things are that are the same modulo P and are told modulo P. -/
theorem pow_unit {P x : Int} {n : Nat} (h : Cg P (x ^ n) 1) (k : Nat) : Cg P (x ^ k) (x ^ (k % n)) := by
  have e : x ^ k = (x ^ n) ^ (k / n) * x ^ (k % n) := by
    rw [← Int.pow_mul, ← Int.pow_add, Nat.div_add_mod]
  rw [e]
  refine ((h.pow (k / n)).mul_right _).trans (Cg.of_eq ?_)
  rw [Int.one_pow, Int.one_mul]
theorem toNat_mod (e Q : Int) (he : 0 ≤ e) (hQ : 0 < Q) : (e % Q).toNat = e.toNat % Q.toNat := by
  obtain ⟨a, rfl⟩ := Int.eq_ofNat_of_zero_le he
  obtain ⟨b, rfl⟩ := Int.eq_ofNat_of_zero_le (Int.le_of_lt hQ)
  have e : ((a : Int) % (b : Int)) = ((a % b : Nat) : Int) := by simp
  rw [e, Int.toNat_natCast, Int.toNat_natCast, Int.toNat_natCast]
theorem pow_mod {P x Q e : Int} (h : Cg P (x ^ Q.toNat) 1) (he : 0 ≤ e) (hQ : 0 < Q) : Cg P (x ^ (e % Q).toNat) (x ^ e.toNat) := by
  rw [toNat_mod e Q he hQ]
  exact (pow_unit h _).symm
/-- A power by a sum modulo Q. -/
theorem pow_addQ {P x Q e f : Int} (h : Cg P (x ^ Q.toNat) 1) (he : 0 ≤ e) (hf : 0 ≤ f) (hQ : mayB Q = true) : Cg P (x ^ (addI e f Q).toNat) (x ^ e.toNat * x ^ f.toNat) := by
  rw [addI_yes _ _ _ hQ]
  refine (pow_mod h (by omega) (may_bds hQ).1).trans (Cg.of_eq ?_)
  rw [← Int.pow_add, Int.toNat_add he hf]
theorem pow_mulQ {P x Q e f : Int} (h : Cg P (x ^ Q.toNat) 1) (he : 0 ≤ e) (hf : 0 ≤ f) (hQ : mayB Q = true) : Cg P (x ^ (mulI e f Q).toNat) ((x ^ e.toNat) ^ f.toNat) := by
  rw [mulI_yes _ _ _ hQ]
  refine (pow_mod h (Int.mul_nonneg he hf) (may_bds hQ).1).trans (Cg.of_eq ?_)
  rw [← Int.pow_mul, Int.toNat_mul he hf]

/-- What params that may be give. -/
structure Good (p : Par) : Prop where
  P : mayB p.P = true
  Q : mayB p.Q = true
  P2 : 2 ≤ p.P
  Q2 : 2 ≤ p.Q
  G : Cg p.P (p.G ^ p.Q.toNat) 1
  H : Cg p.P (p.H ^ p.Q.toNat) 1
  T : 1 ≤ p.T ∧ p.T ≤ 2
  N : 3 * p.T + 1 ≤ p.N ∧ p.N ≤ 7 ∧ p.N < p.Q
  K : 1 ≤ p.K ∧ p.K ≤ 2
  D : 1 ≤ p.D ∧ p.D ≤ 4
  prime : primeB p.Q = true ∧ primeB p.P = true
  M : 1 ≤ p.M ∧ p.M ≤ 1048576
  X : 1 ≤ p.X ∧ p.X ≤ 1048576
  big : 2 * (p.D * p.M * p.X + p.M) < p.Q
theorem is_cg {p : Par} {x : Int} (hP : mayB p.P = true) (h2 : 2 ≤ p.P) (h : isB p x = true) : Cg p.P (x ^ p.Q.toNat) 1 := by
  simp only [isB, Bool.and_eq_true, beq_iff_eq] at h
  have e := h.2
  rw [powI_yes _ _ _ hP] at e
  unfold Cg
  rw [e, Int.emod_eq_of_lt (by decide) (by omega)]
theorem good_of {p : Par} (h : mayP p = true) : Good p := by
  simp only [mayP, m1, m2, m3, m4, m5, m6, m7, m8, m9, m10, Bool.and_eq_true, withinB_iff, decide_eq_true_eq, beq_iff_eq] at h
  obtain ⟨⟨⟨⟨⟨⟨⟨⟨⟨⟨⟨⟨a1, a2⟩, a3⟩, a4⟩, b1, b2⟩, ⟨c1, c2⟩, c3⟩, d1⟩, ⟨e1, e2⟩, f1, f2⟩, g1⟩, ⟨i1, i2⟩, j1, j2⟩, k1⟩, l1, l2⟩, ⟨⟨n1, n2⟩, n3⟩, n4⟩ := h
  have hP := m_may p.P (by omega) a2
  have hd : p.Q ∣ p.P - 1 := Int.dvd_of_emod_eq_zero a4
  have hQ : p.Q ≤ p.P - 1 := Int.le_of_dvd (by omega) hd
  exact ⟨hP, m_may p.Q (by omega) (by omega), a1, a3, is_cg hP a1 n2, is_cg hP a1 n4, ⟨b1, b2⟩, ⟨c1, c2, c3⟩, ⟨e1, e2⟩, ⟨f1, f2⟩, ⟨l1, l2⟩, ⟨i1, i2⟩, ⟨j1, j2⟩, k1⟩

theorem pow_group {P g Q a : Int} (hm : mayB P = true) (h : Cg P (g ^ Q.toNat) 1) : Cg P ((powI g a P) ^ Q.toNat) 1 := by
  refine ((powI_cg g a P hm).pow _).trans ?_
  rw [← Int.pow_mul, Nat.mul_comm, Int.pow_mul]
  exact (h.pow _).trans (Cg.of_eq Int.one_pow)
/-- GroupPowers's three. -/
theorem powers_1 {P x Q e f : Int} (hm : mayB P = true) (hQ : mayB Q = true) (h : Cg P (x ^ Q.toNat) 1) (he : 0 ≤ e) (hf : 0 ≤ f) : timesI P [powI x e P, powI x f P] = powI x (addI e f Q) P := by
  rw [times_two_eq _ _ _ hm, powI_yes _ _ _ hm, powI_yes _ _ _ hm, powI_yes _ _ _ hm]
  exact (((Cg.mod P _).mul (Cg.mod P _)).trans (pow_addQ h he hf hQ).symm)
theorem powers_2 {P x Q e : Int} (hm : mayB P = true) (hQ : mayB Q = true) (h : Cg P (x ^ Q.toNat) 1) (he : 0 ≤ e) : powI x e P = powI x (e % Q) P := by
  rw [powI_yes _ _ _ hm, powI_yes _ _ _ hm]
  exact (pow_mod h he (may_bds hQ).1).symm
theorem powers_3 {P x Q e f : Int} (hm : mayB P = true) (hQ : mayB Q = true) (h : Cg P (x ^ Q.toNat) 1) (he : 0 ≤ e) (hf : 0 ≤ f) : powI (powI x e P) f P = powI x (mulI e f Q) P := by
  rw [powI_base hm (powI_cg x e P hm), powI_yes _ _ _ hm, powI_yes _ _ _ hm]
  exact (pow_mulQ h he hf hQ).symm

theorem commit_eq (p : Par) (x : Int × Int) (hm : mayB p.P = true) : commitI p x = p.G ^ x.1.toNat * p.H ^ x.2.toNat % p.P := by
  unfold commitI
  rw [times_two_eq _ _ _ hm]
  exact (powI_cg _ _ _ hm).mul (powI_cg _ _ _ hm)
theorem commit_cg (p : Par) (x : Int × Int) (hm : mayB p.P = true) : Cg p.P (commitI p x) (p.G ^ x.1.toNat * p.H ^ x.2.toNat) := by
  rw [commit_eq _ _ hm]
  exact Cg.mod _ _
theorem mul4 (a b c d : Int) : a * b * (c * d) = a * c * (b * d) := by
  rw [Int.mul_assoc, Int.mul_assoc, ← Int.mul_assoc b c d, Int.mul_comm b c, Int.mul_assoc c b d]
/-- The product of commitments is the one to the sums. -/
theorem sums_1 {p : Par} (h : Good p) (x y : Int × Int) (x1 : 0 ≤ x.1) (x2 : 0 ≤ x.2) (y1 : 0 ≤ y.1) (y2 : 0 ≤ y.2) : timesI p.P [commitI p x, commitI p y] = commitI p (addI x.1 y.1 p.Q, addI x.2 y.2 p.Q) := by
  rw [times_two_eq _ _ _ h.P, commit_eq p (addI x.1 y.1 p.Q, addI x.2 y.2 p.Q) h.P]
  refine ((commit_cg _ _ h.P).mul (commit_cg _ _ h.P)).trans ?_
  rw [mul4]
  exact ((pow_addQ h.G x1 y1 h.Q).mul (pow_addQ h.H x2 y2 h.Q)).symm
/-- A power of a commitment is the one to the multiples. -/
theorem sums_2 {p : Par} (h : Good p) (x : Int × Int) (k : Int) (x1 : 0 ≤ x.1) (x2 : 0 ≤ x.2) (hk : 0 ≤ k) : powI (commitI p x) k p.P = commitI p (mulI x.1 k p.Q, mulI x.2 k p.Q) := by
  rw [powI_yes _ _ _ h.P, commit_eq p (mulI x.1 k p.Q, mulI x.2 k p.Q) h.P]
  refine ((commit_cg _ _ h.P).pow _).trans ?_
  rw [Int.mul_pow]
  exact ((pow_mulQ h.G x1 hk h.Q).mul (pow_mulQ h.H x2 hk h.Q)).symm

/-- The values of polynomials, as the law reckons them. -/
def valGo (Q i : Int) : List (Int × Int) → Int × Int → Int → Int × Int
  | [], v, _ => v
  | y :: l, v, e => valGo Q i l (addI v.1 (mulI y.1 e Q) Q, addI v.2 (mulI y.2 e Q) Q) (mulI e i Q)
theorem commit_zero {p : Par} (h : Good p) : commitI p (0, 0) = timesI p.P [] := by
  rw [commit_eq _ _ h.P, times_nil_eq _ h.P]
  simp
theorem at_val {p : Par} (h : Good p) (i : Int) (hi : 0 ≤ i) : ∀ (l : List (Int × Int)) (v : Int × Int) (e : Int), (∀ y ∈ l, 0 ≤ y.1 ∧ 0 ≤ y.2) → 0 ≤ v.1 → 0 ≤ v.2 → 0 ≤ e →
    atGo p i (l.map (commitI p)) (commitI p v) e = commitI p (valGo p.Q i l v e)
  | [], v, e, _, _, _, _ => rfl
  | y :: l, v, e, hl, h1, h2, he => by
    obtain ⟨y1, y2⟩ := hl y (by simp)
    have k1 := mulI_U64 y.1 e p.Q
    have k2 := mulI_U64 y.2 e p.Q
    have k3 := mulI_U64 e i p.Q
    have k4 := addI_U64 v.1 (mulI y.1 e p.Q) p.Q
    have k5 := addI_U64 v.2 (mulI y.2 e p.Q) p.Q
    show atGo p i (l.map (commitI p)) (timesI p.P [commitI p v, powI (commitI p y) e p.P]) (mulI e i p.Q) = _
    rw [sums_2 h y e y1 y2 he, sums_1 h v _ h1 h2 k1.1 k2.1]
    exact at_val h i hi l _ _ (fun z hz => hl z (by simp [hz])) k4.1 k5.1 k3.1
theorem at_commits {p : Par} (h : Good p) (i : Int) (hi : 0 ≤ i) (l : List (Int × Int)) (hl : ∀ y ∈ l, 0 ≤ y.1 ∧ 0 ≤ y.2) : atI p (l.map (commitI p)) i = commitI p (valGo p.Q i l (0, 0) 1) := by
  unfold atI
  rw [← commit_zero h, show mulI 1 1 p.Q = 1 by rw [mulI_yes _ _ _ h.Q]; exact Int.emod_eq_of_lt (by decide) (by have := h.Q2; omega)]
  exact at_val h i hi l _ _ hl (by decide) (by decide) (by decide)
theorem mulI_modr (e i Q : Int) : mulI e (i % Q) Q = mulI e i Q := by
  simp only [mulI]
  rw [show i % Q % Q = i % Q from Cg.mod Q i]
theorem atGo_mod (p : Par) (i : Int) : ∀ (l : List Int) (x e : Int), atGo p (i % p.Q) l x e = atGo p i l x e
  | [], _, _ => rfl
  | y :: l, x, e => by
    show atGo p (i % p.Q) l _ (mulI e (i % p.Q) p.Q) = atGo p i l _ (mulI e i p.Q)
    rw [mulI_modr]
    exact atGo_mod p i l _ _
theorem at_mod (p : Par) (l : List Int) (i : Int) : atI p l (i % p.Q) = atI p l i := atGo_mod p i l _ _
end Go.Proofs.YtmbbahlenanpfaaDoor

namespace Go.Proofs.YtmbbahlenanpfaaDoor
open Go Go.RowKit

/-- The product of powers, as the integers have it. -/
def pg (Q i : Int) : List Int → Int → Int
  | [], _ => 1
  | y :: l, e => y ^ e.toNat * pg Q i l (mulI e i Q)
theorem atGo_cg {p : Par} (hm : mayB p.P = true) (i : Int) : ∀ (l : List Int) (x e : Int), Cg p.P (atGo p i l x e) (x * pg p.Q i l e)
  | [], x, e => Cg.of_eq (by simp [atGo, pg])
  | y :: l, x, e => by
    show Cg p.P (atGo p i l (timesI p.P [x, powI y e p.P]) (mulI e i p.Q)) _
    refine (atGo_cg hm i l _ _).trans ?_
    refine (((times_two_cg _ _ _ hm).trans (Cg.mul_left (powI_cg _ _ _ hm) x)).mul_right _).trans (Cg.of_eq ?_)
    simp only [pg, Int.mul_assoc]
theorem atI_cg {p : Par} (hm : mayB p.P = true) (l : List Int) (i : Int) : Cg p.P (atI p l i) (pg p.Q i l (mulI 1 1 p.Q)) := by
  refine (atGo_cg hm i l _ _).trans ?_
  rw [times_nil_eq _ hm]
  exact ((Cg.mod _ _).mul_right _).trans (Cg.of_eq (Int.one_mul _))
theorem atGo_red {p : Par} (hm : mayB p.P = true) (i : Int) : ∀ (l : List Int) (x e : Int), x % p.P = x → atGo p i l x e % p.P = atGo p i l x e
  | [], _, _, h => h
  | y :: l, x, e, _ => by
    refine atGo_red hm i l _ _ ?_
    rw [times_two_eq _ _ _ hm]
    exact Int.emod_emod_of_dvd _ (Int.dvd_refl _)
theorem atI_red {p : Par} (hm : mayB p.P = true) (l : List Int) (i : Int) : atI p l i % p.P = atI p l i := atGo_red hm i l _ _ (by rw [times_nil_eq _ hm]; exact Int.emod_emod_of_dvd _ (Int.dvd_refl _))
theorem atI_of_cg {p : Par} (hm : mayB p.P = true) {l l' : List Int} {i i' : Int} (h : Cg p.P (atI p l i) (atI p l' i')) : atI p l i = atI p l' i' := by
  rw [← atI_red hm l i, ← atI_red hm l' i']
  exact h
/-- Congruence, one by one. -/
def CgL (m : Int) : List Int → List Int → Prop
  | [], [] => True
  | a :: l, b :: k => Cg m a b ∧ CgL m l k
  | _, _ => False
theorem CgL.map {α : Type} {m : Int} {f g : α → Int} : ∀ (l : List α), (∀ x ∈ l, Cg m (f x) (g x)) → CgL m (l.map f) (l.map g)
  | [], _ => trivial
  | x :: l, h => ⟨h x (by simp), CgL.map l fun y hy => h y (by simp [hy])⟩
theorem pg_cg {m Q i : Int} : ∀ {l k : List Int} (e : Int), CgL m l k → Cg m (pg Q i l e) (pg Q i k e)
  | [], [], _, _ => Cg.refl _ _
  | a :: l, b :: k, e, ⟨h1, h2⟩ => (h1.pow _).mul (pg_cg _ h2)
theorem pg_mul {α : Type} {Q i : Int} (f g : α → Int) : ∀ (l : List α) (e : Int), pg Q i (l.map fun x => f x * g x) e = pg Q i (l.map f) e * pg Q i (l.map g) e
  | [], _ => by simp [pg]
  | x :: l, e => by
    simp only [List.map_cons, pg, pg_mul f g l, Int.mul_pow]
    exact mul4 _ _ _ _
theorem pg_pow {α : Type} {Q i : Int} (f : α → Int) (k : Nat) : ∀ (l : List α) (e : Int), pg Q i (l.map fun x => f x ^ k) e = pg Q i (l.map f) e ^ k
  | [], _ => by simp [pg, Int.one_pow]
  | x :: l, e => by
    simp only [List.map_cons, pg, pg_pow f k l, Int.mul_pow]
    rw [← Int.pow_mul, ← Int.pow_mul, Nat.mul_comm]
theorem pg_ones {α : Type} {Q i : Int} : ∀ (l : List α) (e : Int), pg Q i (l.map fun _ => 1) e = 1
  | [], _ => rfl
  | x :: l, e => by simp [pg, pg_ones l, Int.one_pow]
theorem map_getD {l : List Int} {n : Nat} (h : l.length = n) (d : Int) : (List.range n).map (fun j => l[j]?.getD d) = l := by
  subst h
  refine List.ext_getElem (by simp) fun i h1 h2 => ?_
  have h2 : i < l.length := h2
  simp [List.getElem?_eq_getElem h2]
/-- Rows first, or columns first. -/
theorem pg_either {p : Par} {x y : Int} {n : Nat} : ∀ (M : List (List Int)) (e f : Int), (∀ r ∈ M, r.length = n) →
    pg p.Q y ((List.range n).map fun j => pg p.Q x (colI p M j) e) f = pg p.Q x (M.map fun r => pg p.Q y r f) e
  | [], e, f, _ => pg_ones _ _
  | r :: M, e, f, h => by
    have h1 : ∀ j, pg p.Q x (colI p (r :: M) j) e = (r[j]?.getD (timesI p.P [])) ^ e.toNat * pg p.Q x (colI p M j) (mulI e x p.Q) := fun j => rfl
    simp only [h1]
    rw [pg_mul, pg_pow, map_getD (h r (by simp)), pg_either M _ _ fun r hr => h r (by simp [hr])]
    rfl
theorem wide_eq {n : Nat} : ∀ (M : List (List Int)) (k : Nat), (∀ r ∈ M, r.length = n) → k ≤ n → M ≠ [] → M.foldl (fun k c => max k c.length) k = n
  | [], _, _, _, h => absurd rfl h
  | [r], k, h, hk, _ => by
    have := h r (by simp)
    show max k r.length = n
    omega
  | r :: s :: M, k, h, hk, _ => by
    refine wide_eq (s :: M) _ (fun r hr => h r (by simp [hr])) ?_ (by simp)
    have := h r (by simp)
    show max k r.length ≤ n
    omega
theorem either_law {p : Par} (hm : mayB p.P = true) (M : List (List Int)) (n : Nat) (h : ∀ r ∈ M, r.length = n) (hn : M ≠ []) (x y : Int) : atI p (shareI p (turnedI p M) x) y = atI p (shareI p M y) x := by
  have hw : wideI M = n := wide_eq M 0 h (Nat.zero_le _) hn
  refine atI_of_cg hm ((atI_cg hm _ _).trans (Cg.trans ?_ (atI_cg hm _ _).symm))
  have e1 : shareI p (turnedI p M) x = (List.range n).map fun j => atI p (colI p M j) x := by simp [shareI, turnedI, hw, Function.comp_def]
  rw [e1]
  refine (pg_cg _ (CgL.map (g := fun j => pg p.Q x (colI p M j) (mulI 1 1 p.Q)) _ fun j _ => atI_cg hm _ _)).trans ?_
  rw [pg_either M _ _ h]
  exact (pg_cg _ (CgL.map M fun r _ => atI_cg hm r y)).symm
theorem either_all {p : Par} (hm : mayB p.P = true) (m : List (List (List Int))) (n : Nat) (h : ∀ M ∈ m, M ≠ [] ∧ ∀ r ∈ M, r.length = n) (x y : Int) : shareI p (rowComsI p m x) y = shareI p (colComsI p m y) x := by
  simp only [shareI, rowComsI, colComsI, List.map_map]
  refine List.map_congr_left fun M hM => ?_
  exact either_law hm M n (h M hM).2 (h M hM).1 x y
theorem mat_shape (p : Par) (f : List (List (List Int))) (n k : Nat) (hk : 0 < k) (h : ∀ a ∈ f, a.length = k ∧ ∀ r ∈ a, r.length = n) : (matI p f []).length = f.length ∧ ∀ M ∈ matI p f [], (M ≠ [] ∧ M.length = k) ∧ ∀ r ∈ M, r.length = n := by
  refine ⟨by simp [matI, zipS], fun M hM => ?_⟩
  simp only [matI, zipS, List.map_map, List.mem_map, List.mem_range, List.length_nil, Nat.max_zero, Function.comp] at hM
  obtain ⟨i, hi, rfl⟩ := hM
  obtain ⟨h1, h2⟩ := h f[i] (List.getElem_mem hi)
  have hl : (comsI p (f[i]?.getD []) (([] : List (List (List Int)))[i]?.getD [])).length = k := by simp [comsI, zipS, List.getElem?_eq_getElem hi, h1]
  refine ⟨⟨fun e => by rw [e] at hl; simp at hl; omega, hl⟩, fun r hr => ?_⟩
  simp only [comsI, zipS, List.map_map, List.mem_map, List.mem_range, Function.comp, List.getElem?_eq_getElem hi, Option.getD_some] at hr
  obtain ⟨j, hj, rfl⟩ := hr
  simp only [List.getElem?_nil, Option.getD_none, List.length_nil, Nat.max_zero] at hj ⊢
  have := h2 f[i][j] (List.getElem_mem hj)
  simp [comI, zipU, List.getElem?_eq_getElem hj, this]
end Go.Proofs.YtmbbahlenanpfaaDoor

namespace Go.Proofs.YtmbbahlenanpfaaDoor
open Go.RowKit

theorem cell_lt {w : World} {g o : Nat} {v : Value} (h : w.cell? ⟨g, o, none⟩ = some v) : g < w.heap.size := by
  rcases Nat.lt_or_ge g w.heap.size with hlt | hge
  · exact hlt
  · simp [World.cell?, Array.getElem?_eq_none hge] at h
theorem TabsAt.kept {w w' : World} (h : TabsAt w) (hg : w.grownBy w' none) : TabsAt w' :=
  ⟨fun j hj => by have := h.1 j hj; rw [World.cell?_of_block (w := w) (hg.block _ (cell_lt this) (by simp))]; exact this,
   fun j hj => by have := h.2 j hj; rw [World.cell?_of_block (w := w) (hg.block _ (cell_lt this) (by simp))]; exact this⟩
set_option maxHeartbeats 400000 in
theorem may_9 (p : Par) (g : Nat) (w : World) (hT : TabsAt w) (hb : Bk w g 24 p.cells) :
    Calls Tryd.prog 36 #[.pointer (some ⟨g, 0, none⟩)] w fun e w' => e = .returned (.bool (m9 p)) ∧ w.grownBy w' none := by
  have hc := hb.prule
  have HQ := prime_any p.Q w hT
  have HP := Lib.hid (fun k => prime_any p.P (w.drewN k) (hT.drewN k))
  clear hb hT
  cases hQ : primeB p.Q with
  | true =>
    rw [hQ] at HQ
    have HQ2 := Lib.hid HQ
    have HE : Hid (m9 p = primeB p.P) := Lib.hid (by simp [m9, hQ])
    clear hQ HQ
    go_enter Tryd.func36, Tryd.ntmps36
    go_wp2_with fail
    refine HQ2.out.mono ?_
    rintro e w' ⟨rfl, k, rfl⟩
    go_wp2_with fail
    refine (HP.out k).mono ?_
    rintro e w' ⟨rfl, k2, rfl⟩
    go_wp2
    go_ret
    exact ⟨ret_bool HE.out.symm, grownBy_drewN (World.grownBy.refl w none) _⟩
  | false =>
    rw [hQ] at HQ
    have HQ2 := Lib.hid HQ
    have HE : Hid (m9 p = false) := Lib.hid (by simp [m9, hQ])
    clear hQ HQ
    go_enter Tryd.func36, Tryd.ntmps36
    go_wp2_with fail
    refine HQ2.out.mono ?_
    rintro e w' ⟨rfl, k, rfl⟩
    go_wp2
    go_ret
    exact ⟨ret_bool HE.out.symm, grownBy_drewN (World.grownBy.refl w none) _⟩
theorem is_eq (p : Par) (x : Int) (b : Bool) (h : isB p x = b) (w : World) (hp : p.ok) (h1 : U64 x) :
    Calls Tryd.prog 39 #[p.v, .int .u64 x] w fun e' w' => e' = .returned (.bool b) ∧ w.grownBy w' none := h ▸ is_any p x w hp h1
set_option maxHeartbeats 400000 in
theorem may_10 (p : Par) (g : Nat) (w : World) (hp : p.ok) (hb : Bk w g 24 p.cells) :
    Calls Tryd.prog 38 #[.pointer (some ⟨g, 0, none⟩)] w fun e w' => e = .returned (.bool (m10 p)) ∧ w.grownBy w' none := by
  have hc := hb.prule
  have HB := Lib.hid hb
  by_cases h1 : p.G = 1
  · have h1' : (p.G != 1) = false := by simpa using h1
    have HE : Hid (m10 p = false) := Lib.hid (by simp [m10, h1])
    clear h1 hp hb
    go_enter Tryd.func38, Tryd.ntmps38
    go_wp2
    go_ret
    exact ⟨ret_bool HE.out.symm, World.grownBy.refl w none⟩
  · have h1' : (p.G != 1) = true := by simpa using h1
    cases hG : isB p p.G with
    | false =>
      have HI := Lib.hid (fun w => is_eq p p.G _ hG w hp hp.G)
      have HE : Hid (m10 p = false) := Lib.hid (by simp [m10, hG])
      clear h1 hp hb hG
      go_enter Tryd.func38, Tryd.ntmps38
      go_wp2_with fail
      refine (HI.out _).mono ?_
      rintro e w1 ⟨rfl, hg⟩
      have HG := Lib.hid hg
      clear hg
      go_wp2
      go_ret
      exact ⟨ret_bool HE.out.symm, HG.out⟩
    | true =>
      have HI := Lib.hid (fun w => is_eq p p.G _ hG w hp hp.G)
      by_cases h2 : p.H = 1
      · have h2' : (p.H != 1) = false := by simpa using h2
        have HE : Hid (m10 p = false) := Lib.hid (by simp [m10, h2])
        clear h1 h2 hp hb hG
        go_enter Tryd.func38, Tryd.ntmps38
        go_wp2_with fail
        refine (HI.out _).mono ?_
        rintro e w1 ⟨rfl, hg⟩
        have HG := Lib.hid hg
        have hc1 := (HB.out.grown hg (by simp)).prule
        clear hg
        go_wp2
        go_ret
        exact ⟨ret_bool HE.out.symm, HG.out⟩
      · have h2' : (p.H != 1) = true := by simpa using h2
        have HJ := Lib.hid (fun w => is_any p p.H w hp hp.H)
        have HE : Hid (m10 p = isB p p.H) := Lib.hid (by simp [m10, hG, h1, h2])
        clear h1 h2 hp hb hG
        go_enter Tryd.func38, Tryd.ntmps38
        go_wp2_with fail
        refine (HI.out _).mono ?_
        rintro e w1 ⟨rfl, hg⟩
        have HG := Lib.hid hg
        have hc1 := (HB.out.grown hg (by simp)).prule
        clear hg
        go_wp2_with fail
        refine (HJ.out _).mono ?_
        rintro e w2 ⟨rfl, hg⟩
        have HG2 := Lib.hid (HG.out.trans hg)
        clear hg
        go_wp2
        go_ret
        exact ⟨ret_bool HE.out.symm, HG2.out⟩
def ms (p : Par) : List Bool := [m1 p, m2 p, m3 p, m4 p, m5 p, m6 p, m7 p, m8 p, m9 p, m10 p]
def fvs (g : Nat) : List Value := [.func (.func 27) #[] #[.pointer (some ⟨g, 0, none⟩)], .func (.func 28) #[] #[.pointer (some ⟨g, 0, none⟩)], .func (.func 30) #[] #[.pointer (some ⟨g, 0, none⟩)], .func (.func 31) #[] #[.pointer (some ⟨g, 0, none⟩)], .func (.func 32) #[] #[.pointer (some ⟨g, 0, none⟩)], .func (.func 33) #[] #[.pointer (some ⟨g, 0, none⟩)], .func (.func 34) #[] #[.pointer (some ⟨g, 0, none⟩)], .func (.func 35) #[] #[.pointer (some ⟨g, 0, none⟩)], .func (.func 36) #[] #[.pointer (some ⟨g, 0, none⟩)], .func (.func 38) #[] #[.pointer (some ⟨g, 0, none⟩)]]

set_option maxHeartbeats 400000 in
theorem ask_1 (p : Par) (g : Nat) (w : World) (hp : p.ok) (_hT : TabsAt w) (hb : Bk w g 24 p.cells)  :
    Calls Tryd.prog 41 #[.func (.func 27) #[] #[.pointer (some ⟨g, 0, none⟩)]] w fun e w' => e = .returned (.bool (!m1 p)) ∧ w.grownBy w' none := by
  have HM := Lib.hid (may_1 p g w hp hb)
  clear hp _hT hb
  go_enter Tryd.func41, Tryd.ntmps41
  go_wp2_with fail
  refine HM.out.mono ?_
  rintro e w1 ⟨rfl, hg⟩
  have HG := Lib.hid hg
  clear hg
  go_wp2
  go_ret
  exact ⟨rfl, HG.out⟩
set_option maxHeartbeats 400000 in
theorem ask_2 (p : Par) (g : Nat) (w : World) (_hp : p.ok) (_hT : TabsAt w) (hb : Bk w g 24 p.cells)  :
    Calls Tryd.prog 41 #[.func (.func 28) #[] #[.pointer (some ⟨g, 0, none⟩)]] w fun e w' => e = .returned (.bool (!m2 p)) ∧ w.grownBy w' none := by
  have HM := Lib.hid (may_2 p g w hb)
  clear _hp _hT hb
  go_enter Tryd.func41, Tryd.ntmps41
  go_wp2_with fail
  refine HM.out.mono ?_
  rintro e w1 ⟨rfl, hg⟩
  have HG := Lib.hid hg
  clear hg
  go_wp2
  go_ret
  exact ⟨rfl, HG.out⟩
set_option maxHeartbeats 400000 in
theorem ask_3 (p : Par) (g : Nat) (w : World) (hp : p.ok) (_hT : TabsAt w) (hb : Bk w g 24 p.cells) (h2 : m2 p = true) :
    Calls Tryd.prog 41 #[.func (.func 30) #[] #[.pointer (some ⟨g, 0, none⟩)]] w fun e w' => e = .returned (.bool (!m3 p)) ∧ w.grownBy w' none := by
  have HM := Lib.hid (may_3 p g w hp hb h2)
  clear hp _hT hb h2
  go_enter Tryd.func41, Tryd.ntmps41
  go_wp2_with fail
  refine HM.out.mono ?_
  rintro e w1 ⟨rfl, hg⟩
  have HG := Lib.hid hg
  clear hg
  go_wp2
  go_ret
  exact ⟨rfl, HG.out⟩
set_option maxHeartbeats 400000 in
theorem ask_4 (p : Par) (g : Nat) (w : World) (_hp : p.ok) (_hT : TabsAt w) (hb : Bk w g 24 p.cells)  :
    Calls Tryd.prog 41 #[.func (.func 31) #[] #[.pointer (some ⟨g, 0, none⟩)]] w fun e w' => e = .returned (.bool (!m4 p)) ∧ w.grownBy w' none := by
  have HM := Lib.hid (may_4 p g w hb)
  clear _hp _hT hb
  go_enter Tryd.func41, Tryd.ntmps41
  go_wp2_with fail
  refine HM.out.mono ?_
  rintro e w1 ⟨rfl, hg⟩
  have HG := Lib.hid hg
  clear hg
  go_wp2
  go_ret
  exact ⟨rfl, HG.out⟩
set_option maxHeartbeats 400000 in
theorem ask_5 (p : Par) (g : Nat) (w : World) (_hp : p.ok) (_hT : TabsAt w) (hb : Bk w g 24 p.cells)  :
    Calls Tryd.prog 41 #[.func (.func 32) #[] #[.pointer (some ⟨g, 0, none⟩)]] w fun e w' => e = .returned (.bool (!m5 p)) ∧ w.grownBy w' none := by
  have HM := Lib.hid (may_5 p g w hb)
  clear _hp _hT hb
  go_enter Tryd.func41, Tryd.ntmps41
  go_wp2_with fail
  refine HM.out.mono ?_
  rintro e w1 ⟨rfl, hg⟩
  have HG := Lib.hid hg
  clear hg
  go_wp2
  go_ret
  exact ⟨rfl, HG.out⟩
set_option maxHeartbeats 400000 in
theorem ask_6 (p : Par) (g : Nat) (w : World) (_hp : p.ok) (_hT : TabsAt w) (hb : Bk w g 24 p.cells)  :
    Calls Tryd.prog 41 #[.func (.func 33) #[] #[.pointer (some ⟨g, 0, none⟩)]] w fun e w' => e = .returned (.bool (!m6 p)) ∧ w.grownBy w' none := by
  have HM := Lib.hid (may_6 p g w hb)
  clear _hp _hT hb
  go_enter Tryd.func41, Tryd.ntmps41
  go_wp2_with fail
  refine HM.out.mono ?_
  rintro e w1 ⟨rfl, hg⟩
  have HG := Lib.hid hg
  clear hg
  go_wp2
  go_ret
  exact ⟨rfl, HG.out⟩
set_option maxHeartbeats 400000 in
theorem ask_7 (p : Par) (g : Nat) (w : World) (_hp : p.ok) (_hT : TabsAt w) (hb : Bk w g 24 p.cells)  :
    Calls Tryd.prog 41 #[.func (.func 34) #[] #[.pointer (some ⟨g, 0, none⟩)]] w fun e w' => e = .returned (.bool (!m7 p)) ∧ w.grownBy w' none := by
  have HM := Lib.hid (may_7 p g w hb)
  clear _hp _hT hb
  go_enter Tryd.func41, Tryd.ntmps41
  go_wp2_with fail
  refine HM.out.mono ?_
  rintro e w1 ⟨rfl, hg⟩
  have HG := Lib.hid hg
  clear hg
  go_wp2
  go_ret
  exact ⟨rfl, HG.out⟩
set_option maxHeartbeats 400000 in
theorem ask_8 (p : Par) (g : Nat) (w : World) (hp : p.ok) (_hT : TabsAt w) (hb : Bk w g 24 p.cells) (h5 : m5 p = true) (h7 : m7 p = true) :
    Calls Tryd.prog 41 #[.func (.func 35) #[] #[.pointer (some ⟨g, 0, none⟩)]] w fun e w' => e = .returned (.bool (!m8 p)) ∧ w.grownBy w' none := by
  have HM := Lib.hid (may_8 p g w hp hb h5 h7)
  clear hp _hT hb h5 h7
  go_enter Tryd.func41, Tryd.ntmps41
  go_wp2_with fail
  refine HM.out.mono ?_
  rintro e w1 ⟨rfl, hg⟩
  have HG := Lib.hid hg
  clear hg
  go_wp2
  go_ret
  exact ⟨rfl, HG.out⟩
set_option maxHeartbeats 400000 in
theorem ask_9 (p : Par) (g : Nat) (w : World) (_hp : p.ok) (hT : TabsAt w) (hb : Bk w g 24 p.cells)  :
    Calls Tryd.prog 41 #[.func (.func 36) #[] #[.pointer (some ⟨g, 0, none⟩)]] w fun e w' => e = .returned (.bool (!m9 p)) ∧ w.grownBy w' none := by
  have HM := Lib.hid (may_9 p g w hT hb)
  clear _hp hT hb
  go_enter Tryd.func41, Tryd.ntmps41
  go_wp2_with fail
  refine HM.out.mono ?_
  rintro e w1 ⟨rfl, hg⟩
  have HG := Lib.hid hg
  clear hg
  go_wp2
  go_ret
  exact ⟨rfl, HG.out⟩
set_option maxHeartbeats 400000 in
theorem ask_10 (p : Par) (g : Nat) (w : World) (hp : p.ok) (_hT : TabsAt w) (hb : Bk w g 24 p.cells)  :
    Calls Tryd.prog 41 #[.func (.func 38) #[] #[.pointer (some ⟨g, 0, none⟩)]] w fun e w' => e = .returned (.bool (!m10 p)) ∧ w.grownBy w' none := by
  have HM := Lib.hid (may_10 p g w hp hb)
  clear hp _hT hb
  go_enter Tryd.func41, Tryd.ntmps41
  go_wp2_with fail
  refine HM.out.mono ?_
  rintro e w1 ⟨rfl, hg⟩
  have HG := Lib.hid hg
  clear hg
  go_wp2
  go_ret
  exact ⟨rfl, HG.out⟩
theorem ask_any (p : Par) (g : Nat) (w : World) (hp : p.ok) (hT : TabsAt w) (hb : Bk w g 24 p.cells) : ∀ (j : Nat) (_h : j < (fvs g).length) (h' : j < (ms p).length), (∀ i (hi : i < j), (ms p)[i]'(by omega) = true) →
    Calls Tryd.prog 41 #[(fvs g)[j]] w fun e w' => e = .returned (.bool (!(ms p)[j])) ∧ w.grownBy w' none
  | 0, _, _, _ => ask_1 p g w hp hT hb
  | 1, _, _, _ => ask_2 p g w hp hT hb
  | 2, _, _, hh => ask_3 p g w hp hT hb (hh 1 (by omega))
  | 3, _, _, _ => ask_4 p g w hp hT hb
  | 4, _, _, _ => ask_5 p g w hp hT hb
  | 5, _, _, _ => ask_6 p g w hp hT hb
  | 6, _, _, _ => ask_7 p g w hp hT hb
  | 7, _, _, hh => ask_8 p g w hp hT hb (hh 4 (by omega)) (hh 6 (by omega))
  | 8, _, _, _ => ask_9 p g w hp hT hb
  | 9, _, _, _ => ask_10 p g w hp hT hb
  | n + 10, h, _, _ => absurd h (by simp [fvs])
theorem mayP_all (p : Par) : mayP p = (ms p).all id := by simp [mayP, ms, Bool.and_assoc]
/-- What IndexFunc tells of the asks. -/
def Found (p : Par) (w : World) (e : Ending) (w' : World) : Prop := ∃ n : Int, e = .returned (.int .i64 n) ∧ decide (0 ≤ n) = !mayP p ∧ w.grownBy w' none
set_option maxHeartbeats 400000 in
theorem index_any (p : Par) (g ga : Nat) (t : TypeId) (w : World) (hp : p.ok) (hT : TabsAt w) (hb : Bk w g 24 p.cells) (ha : Bk w ga t (fvs g).toArray) :
    Calls Tryd.prog 62 #[.slice (some ⟨ga, 0, none⟩) 10 10, .func (.func 41) #[] #[]] w (Found p w) := by
  have HP := Lib.hid hp
  have HT := Lib.hid hT
  have HB := Lib.hid hb
  have HA := Lib.hid ha
  clear hp hT hb ha
  go_enter Tryd.func62, Tryd.ntmps62
  go_wp2_with fail
  go_loopg [8] 10 (fun n s8 wx => ∃ j : Nat, j + n = 10 ∧ s8 = .int .i64 j ∧ Hid (w.grownBy wx none ∧ ∀ i (_ : i < j) (h : i < (ms p).length), (ms p)[i] = true))
  case atStart => exact ⟨0, by omega, rfl, Lib.hid ⟨World.grownBy.refl w none, fun i hi => absurd hi (by omega)⟩⟩
  case round =>
    obtain ⟨j, hj, rfl, HX⟩ := hrel
    cases gk with
    | zero =>
      obtain rfl : j = 10 := by omega
      have HE : Hid (Found p w (.returned (.int .i64 (-1))) wr) := Lib.hid ⟨-1, rfl, by
        have : mayP p = true := by
          rw [mayP_all, List.all_eq_true]
          intro b hb
          obtain ⟨i, hi, rfl⟩ := List.getElem_of_mem hb
          exact HX.out.2 i (by simp [ms] at hi; omega) hi
        rw [this]
        rfl, HX.out.1⟩
      clear HX
      go_wp2
      go_ret
      exact HE.out
    | succ k =>
      have hjn : (j : Int) < 10 := by omega
      have hj1 : j < (fvs g).length := by simp [fvs]; omega
      have hj2 : j < (ms p).length := by simp [ms]; omega
      have hcell : wr.cell? ⟨ga, j, none⟩ = some (fvs g)[j] := by
        rw [(HA.out.grown HX.out.1 (by simp)).cell j, List.getElem?_toArray]
        exact List.getElem?_eq_getElem hj1
      have HC := Lib.hid (ask_any p g wr HP.out (HT.out.kept HX.out.1) (HB.out.grown HX.out.1 (by simp)) j hj1 hj2 (fun i hi => HX.out.2 i hi (by omega)))
      have HV : Hid ((ms p)[j] = true ∨ (ms p)[j] = false) := Lib.hid (by cases (ms p)[j] <;> simp)
      have HR : Hid ((ms p)[j] = true → ∀ i (_ : i < j + 1) (h : i < (ms p).length), (ms p)[i] = true) := Lib.hid (fun h i hi hl => by
        rcases Nat.lt_or_ge i j with h1 | h1
        · exact HX.out.2 i h1 hl
        · obtain rfl : i = j := by omega
          exact h)
      have HN : Hid ((ms p)[j] = false → mayP p = false) := Lib.hid (fun h => by
        rw [mayP_all, Bool.eq_false_iff]
        intro hall
        rw [List.all_eq_true] at hall
        have := hall _ (List.getElem_mem hj2)
        simp [h] at this)
      have HG := Lib.hid HX.out.1
      generalize (fvs g)[j] = fv at *
      generalize (ms p)[j] = b at *
      clear HX hj1 hj2
      rcases HV.out with rfl | rfl
      · go_wp2_with fail
        refine HC.out.mono ?_
        rintro e w1 ⟨rfl, hg⟩
        have HG1 := Lib.hid (HG.out.trans hg)
        clear hg
        go_wp2
        go_roundg k
        case measure => omega
        case rel => exact ⟨j + 1, by omega, by go_num, Lib.hid ⟨HG1.out, HR.out (by simp)⟩⟩
      · have HE : Hid (∀ w1, w.grownBy w1 none → Found p w (.returned (.int .i64 j)) w1) := Lib.hid (fun w1 hg => ⟨j, rfl, by rw [HN.out rfl]; simp, hg⟩)
        go_wp2_with fail
        refine HC.out.mono ?_
        rintro e w1 ⟨rfl, hg⟩
        have HG1 := Lib.hid (HG.out.trans hg)
        clear hg
        go_wp2
        go_ret
        exact HE.out _ HG1.out
set_option maxHeartbeats 400000 in
theorem contains_any (p : Par) (g ga : Nat) (t : TypeId) (w : World) (hp : p.ok) (hT : TabsAt w) (hb : Bk w g 24 p.cells) (ha : Bk w ga t (fvs g).toArray) :
    Calls Tryd.prog 40 #[.slice (some ⟨ga, 0, none⟩) 10 10, .func (.func 41) #[] #[]] w fun e w' => e = .returned (.bool (!mayP p)) ∧ w.grownBy w' none := by
  have HI := Lib.hid (index_any p g ga t w hp hT hb ha)
  clear hp hT hb ha
  go_enter Tryd.func40, Tryd.ntmps40
  go_wp2_with fail
  refine HI.out.mono ?_
  rintro e w1 ⟨n, rfl, hn, hg⟩
  have HN := Lib.hid hn
  have HG := Lib.hid hg
  clear hn hg
  go_wp2
  go_ret
  exact ⟨ret_bool HN.out, HG.out⟩
set_option maxHeartbeats 400000 in
theorem may_any (p : Par) (w : World) (hp : p.ok) (hT : TabsAt w) :
    Calls Tryd.prog 8 #[p.v] w fun e w' => e = .returned (.bool (mayP p)) ∧ w.grownBy w' none := by
  have hg1 : w.grownBy (w.alloc (Obj.cells p.cells 24)) none := World.grownBy_alloc w _ none
  have hg2 := World.grownBy_alloc (w.alloc (Obj.cells p.cells 24)) (Obj.cells (fvs w.heap.size).toArray 26) none
  have HC := Lib.hid (contains_any p w.heap.size (w.heap.size + 1) 26 ((w.alloc (Obj.cells p.cells 24)).alloc (Obj.cells (fvs w.heap.size).toArray 26)) hp (hT.kept (hg1.trans hg2)) ((Bk.new w _ _).alloc _)
    (by have := Bk.new (w.alloc (Obj.cells p.cells 24)) 26 (fvs w.heap.size).toArray; rwa [World.size_alloc] at this))
  have HGR := Lib.hid (hg1.trans hg2)
  clear hp hT hg1 hg2
  unfold fvs at HC HGR
  go_enter Tryd.func8, Tryd.ntmps8
  go_wp2_with fail
  refine HC.out.mono ?_
  rintro e w1 ⟨rfl, hg⟩
  have HG := Lib.hid (HGR.out.trans hg)
  clear hg
  go_wp2
  go_ret
  exact ⟨ret_bool (by simp), HG.out⟩
end Go.Proofs.YtmbbahlenanpfaaDoor

namespace Go.Proofs.YtmbbahlenanpfaaDoor
open Go Go.RowKit

theorem secretsI_of {p : Par} (h : Good p) : secretsI p = p.K * (p.D + 1) := by
  obtain ⟨k1, k2⟩ := h.K
  obtain ⟨d1, d2⟩ := h.D
  unfold secretsI
  have e1 : wrap64 (p.D + 1) = p.D + 1 := by unfold wrap64; omega
  rw [e1]
  have h1 : 0 ≤ p.K * (p.D + 1) := Int.mul_nonneg (by omega) (by omega)
  have h2 : p.K * (p.D + 1) ≤ 2 * 5 := Int.mul_le_mul k2 (by omega) (by omega) (by omega)
  unfold wrap64
  omega
theorem secretsI_bd {p : Par} (h : Good p) : 1 ≤ secretsI p ∧ secretsI p ≤ 10 := by
  obtain ⟨k1, k2⟩ := h.K
  obtain ⟨d1, d2⟩ := h.D
  rw [secretsI_of h]
  have h2 : p.K * (p.D + 1) ≤ 2 * 5 := Int.mul_le_mul k2 (by omega) (by omega) (by omega)
  have h3 : 1 * 1 ≤ p.K * (p.D + 1) := Int.mul_le_mul k1 (by omega) (by omega) (by omega)
  omega
set_option maxRecDepth 100000 in
set_option maxHeartbeats 2000000 in
theorem either_any (p : Par) (v : Value) (l : List Int) (x y : Int) (w : World) (hp : p.ok) (h : Sl encU (fun _ => True) w v l) (hx : U64 x) (hy : U64 y) (hT : TabsAt w) :
    Calls Tryd.prog 5 #[p.v, v, .int .u64 x, .int .u64 y] w fun e w' => e = .returned (.bool true) ∧ w.grownBy w' none := by
  have HP := Lib.hid hp
  have HL := Lib.hid h
  have HX := Lib.hid hx
  have HY := Lib.hid hy
  obtain ⟨A, c, rfl, hl1, hl2⟩ := h.form
  have HB0 : Hid (Bk (w.alloc (Obj.cells p.cells 24)) w.heap.size 24 p.cells) := Lib.hid (Bk.new w _ _)
  have HG0 : Hid (w.grownBy (w.alloc (Obj.cells p.cells 24)) none) := Lib.hid (World.grownBy_alloc w _ none)
  have HM := Lib.hid (fun (w' : World) (hg : w.grownBy w' none) => may_any p w' hp (hT.kept hg))
  clear h hp hx hy hT
  cases hm : mayP p with
  | false =>
    rw [hm] at HM
    clear hm
    go_enter Tryd.func5, Tryd.ntmps5
    go_wp2_with fail
    refine (works08_any _).mono ?_
    rintro e w1 ⟨rfl, hg⟩
    have HG1 := hidTrans hg HG0
    have hp1 := (bkGrown hg HB0).out.prule
    clear hg
    go_wp2_with fail
    refine (HM.out _ HG1.out).mono ?_
    rintro e w2 ⟨rfl, hg⟩
    have HG2 := hidTrans hg HG1
    clear hg
    go_wp2_with fail
    refine (works08_any _).mono ?_
    rintro e w3 ⟨rfl, hg⟩
    have HG3 := hidTrans hg HG2
    clear hg
    go_wp2
    go_ret
    exact ⟨rfl, HG3.out⟩
  | true =>
    have HGd := Lib.hid (good_of hm)
    rw [hm] at HM
    clear hm
    by_cases hb : 1000 < l.length
    · have hb' : decide ((1000 : Int) < (l.length : Int)) = true := by simp; omega
      go_enter Tryd.func5, Tryd.ntmps5
      go_wp2_with fail
      refine (works08_any _).mono ?_
      rintro e w1 ⟨rfl, hg⟩
      have HG1 := hidTrans hg HG0
      have hp1 := (bkGrown hg HB0).out.prule
      clear hg
      go_wp2_with fail
      refine (HM.out _ HG1.out).mono ?_
      rintro e w2 ⟨rfl, hg⟩
      have HG2 := hidTrans hg HG1
      clear hg
      go_wp2_with fail
      refine (works08_any _).mono ?_
      rintro e w3 ⟨rfl, hg⟩
      have HG3 := hidTrans hg HG2
      clear hg
      go_wp2
      go_ret
      exact ⟨rfl, HG3.out⟩
    · have hb' : decide ((1000 : Int) < (l.length : Int)) = false := by simp; omega
      obtain ⟨S, hS⟩ : ∃ S : Nat, secretsI p = (S : Int) := ⟨(secretsI p).toNat, by have := secretsI_bd HGd.out; omega⟩
      obtain ⟨n, hn⟩ : ∃ n : Nat, p.T + 1 = (n : Int) := ⟨(p.T + 1).toNat, by have := HGd.out.T; omega⟩
      have hS9 : S ≤ 10 := by have := secretsI_bd HGd.out; omega
      have hT0 : 0 ≤ p.T := by have := HGd.out.T; omega
      have hn1 : 0 < n := by omega
      have hn9 : n ≤ 3 := by have := HGd.out.T; omega
      have hsh := mat_shape p (xCube l n S) n n hn1 (fun a ha => by
        simp only [xCube, List.mem_map, List.mem_range] at ha
        obtain ⟨s, _, rfl⟩ := ha
        refine ⟨xSq_length _ _ _ _, fun r hr => ?_⟩
        simp only [xSq, List.mem_map, List.mem_range] at hr
        obtain ⟨i, _, rfl⟩ := hr
        exact xRow_length _ _ _)
      rw [xCube_length] at hsh
      have HTWO : Hid (∀ w', w.grownBy w' none → Calls Tryd.prog 14 #[p.v, .slice A l.length c] w' (Gives (encS (encS encU)) (fun g => w'.heap.size ≤ g) w' (xCube l n S))) := Lib.hid (fun w' hw => two_any p _ l n S _ w' (HL.out.kept hw) hn hT0 (by omega) hS (by omega))
      have HMAT : Hid (∀ w' v', Sl (encS (encS encU)) TT w' v' (xCube l n S) → Calls Tryd.prog 16 #[p.v, v', .slice none 0 0] w' (Gives (encS (encS encU)) (fun g => w'.heap.size ≤ g) w' (matI p (xCube l n S) []))) := Lib.hid (fun w' v' hv => matrix_any p v' _ (xCube l n S) [] TT w' HP.out hv (Sl.nil _ _ _) (by rw [xCube_length]; omega) (by simp) (fun a ha => by
        simp only [xCube, List.mem_map, List.mem_range] at ha
        obtain ⟨s, _, rfl⟩ := ha
        refine ⟨by rw [xSq_length]; omega, fun r hr => ?_⟩
        simp only [xSq, List.mem_map, List.mem_range] at hr
        obtain ⟨i, _, rfl⟩ := hr
        rw [xRow_length]
        omega) (by simp))
      have hml : (matI p (xCube l n S) []).length ≤ 100000 := by rw [hsh.1]; omega
      have hmr : ∀ M ∈ matI p (xCube l n S) [], M.length ≤ 100000 ∧ ∀ r ∈ M, r.length ≤ 100000 := fun M hM => by
        obtain ⟨⟨_, h1⟩, h2⟩ := hsh.2 M hM
        exact ⟨by omega, fun r hr => by rw [h2 r hr]; omega⟩
      have HROW : Hid (∀ w' v', Sl (encS (encS encU)) TT w' v' (matI p (xCube l n S) []) → Calls Tryd.prog 20 #[p.v, v', .int .u64 x] w' (Gives (encS encU) (fun g => w'.heap.size ≤ g) w' (rowComsI p (matI p (xCube l n S) []) x))) := Lib.hid (fun w' v' hv => rowComs_any p v' _ x TT w' hv HX.out hml hmr)
      have HCOL : Hid (∀ w' v', Sl (encS (encS encU)) TT w' v' (matI p (xCube l n S) []) → Calls Tryd.prog 21 #[p.v, v', .int .u64 y] w' (Gives (encS encU) (fun g => w'.heap.size ≤ g) w' (colComsI p (matI p (xCube l n S) []) y))) := Lib.hid (fun w' v' hv => colComs_any p v' _ y TT w' hv HY.out hml (fun M hM => (hmr M hM).1))
      have HSHR : Hid (∀ w' v', Sl (encS encU) TT w' v' (rowComsI p (matI p (xCube l n S) []) x) → Calls Tryd.prog 19 #[p.v, v', .int .u64 y] w' (Gives encU (fun g => w'.heap.size ≤ g) w' (shareI p (rowComsI p (matI p (xCube l n S) []) x) y))) := Lib.hid (fun w' v' hv => share_any p v' _ y TT w' hv HY.out (by rw [rowComsI, List.length_map]; exact hml))
      have HSHC : Hid (∀ w' v', Sl (encS encU) TT w' v' (colComsI p (matI p (xCube l n S) []) y) → Calls Tryd.prog 19 #[p.v, v', .int .u64 x] w' (Gives encU (fun g => w'.heap.size ≤ g) w' (shareI p (colComsI p (matI p (xCube l n S) []) y) x))) := Lib.hid (fun w' v' hv => share_any p v' _ x TT w' hv HX.out (by rw [colComsI, List.length_map]; exact hml))
      have HNUM : Hid (∀ w' v1 v2, Sl encU TT w' v1 (shareI p (rowComsI p (matI p (xCube l n S) []) x) y) → Sl encU TT w' v2 (shareI p (colComsI p (matI p (xCube l n S) []) y) x) → Calls Tryd.prog 18 #[v1, v2] w' (Quietly w' (.bool true))) := Lib.hid (fun w' v1 v2 h1 h2 => by
        rw [either_all HGd.out.P _ n (fun M hM => ⟨(hsh.2 M hM).1.1, (hsh.2 M hM).2⟩) x y] at h1
        exact nums_eq v1 v2 _ _ _ w' h1 h2)
      clear hS hn hS9 hT0 hn1 hn9 hsh hml hmr
      go_enter Tryd.func5, Tryd.ntmps5
      go_wp2_with fail
      refine (works08_any _).mono ?_
      rintro e w1 ⟨rfl, hg⟩
      have HG1 := hidTrans hg HG0
      have HB1 := bkGrown hg HB0
      have hp1 := HB1.out.prule
      clear hg
      go_wp2_with fail
      refine (HM.out _ HG1.out).mono ?_
      rintro e w2 ⟨rfl, hg⟩
      have HG2 := hidTrans hg HG1
      have HB3 : Hid (Bk w2.drew w.heap.size 24 p.cells) := Lib.hid ((bkGrown hg HB1).out.drewN 1)
      have HG3 : Hid (w.grownBy w2.drew none) := Lib.hid (grownBy_drewN HG2.out 1)
      clear hg hp1
      have HTW2 := HTWO
      clear HTWO
      have HTWO : Hid (∀ w', w2.drew.grownBy w' none → Calls Tryd.prog 14 #[p.v, .slice A l.length c] w' (Gives (encS (encS encU)) (fun g => w'.heap.size ≤ g) w' (xCube l n S))) := Lib.hid (fun w' hw => HTW2.out w' (HG3.out.trans hw))
      clear HTW2
      go_wp2_with fail
      refine wp_region_mono 6 (by kernel_rfl) (by kernel_rfl) ?_
      -- op 0 (slot 23): load
      refine MonoR.step (Pv.eq (p.v)) [] (by kernel_rfl) (fun w' hw' => ?_) ?_
      · refine ask_do rfl fun K hK => ?_
        have hp := (HB3.out.grown hw' (by simp)).prule
        go_simp
        exact hK _ _ rfl rfl (World.grownBy.refl _ none)
      -- op 1 (slot 24): load
      refine MonoR.step (Pv.eq (p.v)) [] (by kernel_rfl) (fun w' hw' => ?_) ?_
      · refine ask_do rfl fun K hK => ?_
        have hp := (HB3.out.grown hw' (by simp)).prule
        go_simp
        exact hK _ _ rfl rfl (World.grownBy.refl _ none)
      -- op 2 (slot 25): move
      refine MonoR.step (Pv.eq (.slice A l.length c)) [] (by kernel_rfl) (fun w' hw' => ?_) ?_
      · refine ask_do rfl fun K hK => ?_
        go_simp
        exact hK _ _ rfl rfl (World.grownBy.refl _ none)
      -- op 3 (slot 26): call
      refine MonoR.step (Pv.sl (encS (encS encU)) TT (xCube l n S)) [(1, 24), (2, 25)] (by kernel_rfl) (fun w' hw' => ?_) ?_
      · rintro _ rfl
        rintro _ rfl
        refine ask_do rfl fun K hK => ?_
        go_simp
        refine (HTWO.out w' hw').mono ?_
        rintro e w3 ⟨v3, rfl, h3, hg⟩
        exact hK _ _ rfl (h3.more (fun _ _ _ => trivial)) hg
      -- op 4 (slot 27): call
      refine MonoR.step (Pv.sl (encS (encS encU)) TT (matI p (xCube l n S) [])) [(0, 23), (3, 26)] (by kernel_rfl) (fun w' hw' => ?_) ?_
      · rintro _ rfl
        intro x26 h26
        have h26 : Sl (encS (encS encU)) TT w' x26 (xCube l n S) := h26
        refine ask_do rfl fun K hK => ?_
        obtain ⟨A26, c26, e26, _, _⟩ := h26.form
        subst e26
        go_simp
        refine (HMAT.out w' _ h26).mono ?_
        rintro e w3 ⟨v3, rfl, h3, hg⟩
        exact hK _ _ rfl (h3.more (fun _ _ _ => trivial)) hg
      -- op 5 (slot 9): assign
      refine MonoR.step (Pv.sl (encS (encS encU)) TT (matI p (xCube l n S) [])) [(4, 27)] (by kernel_rfl) (fun w' hw' => ?_) ?_
      · intro x27 h27
        have h27 : Sl (encS (encS encU)) TT w' x27 (matI p (xCube l n S) []) := h27
        refine ask_do rfl fun K hK => ?_
        go_simp
        exact hK _ _ rfl h27 (World.grownBy.refl _ none)
      intro w3 hw3
      iterate 5 (intro _ _)
      intro v9 h9
      have h9 : Sl (encS (encS encU)) TT w3 v9 (matI p (xCube l n S) []) := h9
      have HROW2 : Hid (∀ w', w3.drew.grownBy w' none → Calls Tryd.prog 20 #[p.v, v9, .int .u64 x] w' (Gives (encS encU) (fun g => w'.heap.size ≤ g) w' (rowComsI p (matI p (xCube l n S) []) x))) := Lib.hid (fun w' hw => HROW.out w' v9 (h9.kept ((grown_drewN' w3 1).trans hw)))
      have HCOL2 : Hid (∀ w', w3.drew.grownBy w' none → Calls Tryd.prog 21 #[p.v, v9, .int .u64 y] w' (Gives (encS encU) (fun g => w'.heap.size ≤ g) w' (colComsI p (matI p (xCube l n S) []) y))) := Lib.hid (fun w' hw => HCOL.out w' v9 (h9.kept ((grown_drewN' w3 1).trans hw)))
      have HB4 : Hid (Bk w3.drew w.heap.size 24 p.cells) := Lib.hid ((HB3.out.grown hw3 (by simp)).drewN 1)
      have HG4 : Hid (w.grownBy w3.drew none) := Lib.hid (grownBy_drewN (HG3.out.trans hw3) 1)
      clear hw3 h9 HROW HCOL HB3
      have HROW := HROW2
      have HCOL := HCOL2
      clear HROW2 HCOL2
      refine wpList_nil ?_
      simp only [Act.put, List.setIfInBounds_toArray, List.set_cons_zero, List.set_cons_succ]
      go_wp2_with fail
      refine wp_region_mono 16 (by kernel_rfl) (by kernel_rfl) ?_
      -- op 0 (slot 28): load
      refine MonoR.step (Pv.eq (p.v)) [] (by kernel_rfl) (fun w' hw' => ?_) ?_
      · refine ask_do rfl fun K hK => ?_
        have hp := (HB4.out.grown hw' (by simp)).prule
        go_simp
        exact hK _ _ rfl rfl (World.grownBy.refl _ none)
      -- op 1 (slot 29): load
      refine MonoR.step (Pv.eq (p.v)) [] (by kernel_rfl) (fun w' hw' => ?_) ?_
      · refine ask_do rfl fun K hK => ?_
        have hp := (HB4.out.grown hw' (by simp)).prule
        go_simp
        exact hK _ _ rfl rfl (World.grownBy.refl _ none)
      -- op 2 (slot 30): move
      refine MonoR.step (Pv.eq (v9)) [] (by kernel_rfl) (fun w' hw' => ?_) ?_
      · refine ask_do rfl fun K hK => ?_
        go_simp
        exact hK _ _ rfl rfl (World.grownBy.refl _ none)
      -- op 3 (slot 31): move
      refine MonoR.step (Pv.eq (.int .u64 x)) [] (by kernel_rfl) (fun w' hw' => ?_) ?_
      · refine ask_do rfl fun K hK => ?_
        go_simp
        exact hK _ _ rfl rfl (World.grownBy.refl _ none)
      -- op 4 (slot 32): call
      refine MonoR.step (Pv.sl (encS encU) TT (rowComsI p (matI p (xCube l n S) []) x)) [(1, 29), (2, 30), (3, 31)] (by kernel_rfl) (fun w' hw' => ?_) ?_
      · rintro _ rfl
        rintro _ rfl
        rintro _ rfl
        refine ask_do rfl fun K hK => ?_
        go_simp
        refine (HROW.out w' hw').mono ?_
        rintro e w3 ⟨v3, rfl, h3, hg⟩
        exact hK _ _ rfl (h3.more (fun _ _ _ => trivial)) hg
      -- op 5 (slot 33): move
      refine MonoR.step (Pv.eq (.int .u64 y)) [] (by kernel_rfl) (fun w' hw' => ?_) ?_
      · refine ask_do rfl fun K hK => ?_
        go_simp
        exact hK _ _ rfl rfl (World.grownBy.refl _ none)
      -- op 6 (slot 34): call
      refine MonoR.step (Pv.sl (encU) TT (shareI p (rowComsI p (matI p (xCube l n S) []) x) y)) [(0, 28), (4, 32), (5, 33)] (by kernel_rfl) (fun w' hw' => ?_) ?_
      · rintro _ rfl
        intro x32 h32
        have h32 : Sl (encS encU) TT w' x32 (rowComsI p (matI p (xCube l n S) []) x) := h32
        rintro _ rfl
        refine ask_do rfl fun K hK => ?_
        obtain ⟨A32, c32, e32, _, _⟩ := h32.form
        subst e32
        go_simp
        refine (HSHR.out w' _ h32).mono ?_
        rintro e w3 ⟨v3, rfl, h3, hg⟩
        exact hK _ _ rfl (h3.more (fun _ _ _ => trivial)) hg
      -- op 7 (slot 35): load
      refine MonoR.step (Pv.eq (p.v)) [] (by kernel_rfl) (fun w' hw' => ?_) ?_
      · refine ask_do rfl fun K hK => ?_
        have hp := (HB4.out.grown hw' (by simp)).prule
        go_simp
        exact hK _ _ rfl rfl (World.grownBy.refl _ none)
      -- op 8 (slot 36): load
      refine MonoR.step (Pv.eq (p.v)) [] (by kernel_rfl) (fun w' hw' => ?_) ?_
      · refine ask_do rfl fun K hK => ?_
        have hp := (HB4.out.grown hw' (by simp)).prule
        go_simp
        exact hK _ _ rfl rfl (World.grownBy.refl _ none)
      -- op 9 (slot 37): move
      refine MonoR.step (Pv.eq (v9)) [] (by kernel_rfl) (fun w' hw' => ?_) ?_
      · refine ask_do rfl fun K hK => ?_
        go_simp
        exact hK _ _ rfl rfl (World.grownBy.refl _ none)
      -- op 10 (slot 38): move
      refine MonoR.step (Pv.eq (.int .u64 y)) [] (by kernel_rfl) (fun w' hw' => ?_) ?_
      · refine ask_do rfl fun K hK => ?_
        go_simp
        exact hK _ _ rfl rfl (World.grownBy.refl _ none)
      -- op 11 (slot 39): call
      refine MonoR.step (Pv.sl (encS encU) TT (colComsI p (matI p (xCube l n S) []) y)) [(8, 36), (9, 37), (10, 38)] (by kernel_rfl) (fun w' hw' => ?_) ?_
      · rintro _ rfl
        rintro _ rfl
        rintro _ rfl
        refine ask_do rfl fun K hK => ?_
        go_simp
        refine (HCOL.out w' hw').mono ?_
        rintro e w3 ⟨v3, rfl, h3, hg⟩
        exact hK _ _ rfl (h3.more (fun _ _ _ => trivial)) hg
      -- op 12 (slot 40): move
      refine MonoR.step (Pv.eq (.int .u64 x)) [] (by kernel_rfl) (fun w' hw' => ?_) ?_
      · refine ask_do rfl fun K hK => ?_
        go_simp
        exact hK _ _ rfl rfl (World.grownBy.refl _ none)
      -- op 13 (slot 41): call
      refine MonoR.step (Pv.sl (encU) TT (shareI p (colComsI p (matI p (xCube l n S) []) y) x)) [(7, 35), (11, 39), (12, 40)] (by kernel_rfl) (fun w' hw' => ?_) ?_
      · rintro _ rfl
        intro x39 h39
        have h39 : Sl (encS encU) TT w' x39 (colComsI p (matI p (xCube l n S) []) y) := h39
        rintro _ rfl
        refine ask_do rfl fun K hK => ?_
        obtain ⟨A39, c39, e39, _, _⟩ := h39.form
        subst e39
        go_simp
        refine (HSHC.out w' _ h39).mono ?_
        rintro e w3 ⟨v3, rfl, h3, hg⟩
        exact hK _ _ rfl (h3.more (fun _ _ _ => trivial)) hg
      -- op 14 (slot 42): call
      refine MonoR.step (Pv.eq (.bool true)) [(6, 34), (13, 41)] (by kernel_rfl) (fun w' hw' => ?_) ?_
      · intro x34 h34
        have h34 : Sl (encU) TT w' x34 (shareI p (rowComsI p (matI p (xCube l n S) []) x) y) := h34
        intro x41 h41
        have h41 : Sl (encU) TT w' x41 (shareI p (colComsI p (matI p (xCube l n S) []) y) x) := h41
        refine ask_do rfl fun K hK => ?_
        obtain ⟨A34, c34, e34, _, _⟩ := h34.form
        subst e34
        obtain ⟨A41, c41, e41, _, _⟩ := h41.form
        subst e41
        go_simp
        refine (HNUM.out w' _ _ h34 h41).mono ?_
        rintro e w3 ⟨rfl, m3, rfl⟩
        exact hK _ _ rfl rfl (grown_drewN' w' m3)
      -- op 15 (slot 8): assign
      refine MonoR.step (Pv.eq (.bool true)) [(14, 42)] (by kernel_rfl) (fun w' hw' => ?_) ?_
      · rintro _ rfl
        refine ask_do rfl fun K hK => ?_
        go_simp
        exact hK _ _ rfl rfl (World.grownBy.refl _ none)
      intro w4 hw4
      iterate 15 (intro _ _)
      rintro _ rfl
      have HE := Lib.hid (HG4.out.trans hw4)
      clear hw4
      refine wpList_nil ?_
      simp only [Act.put, List.setIfInBounds_toArray, List.set_cons_zero, List.set_cons_succ]
      go_wp2
      go_ret
      exact ⟨rfl, HE.out⟩
end Go.Proofs.YtmbbahlenanpfaaDoor

namespace Go.Proofs.YtmbbahlenanpfaaDoor
open Go.RowKit

theorem add_gr (a b m : Int) (w : World) (ha : U64 a) (hb : U64 b) :
    Calls Tryd.prog 17 #[.int .u64 a, .int .u64 b, .int .u64 m] w fun e w' => e = .returned (.int .u64 (addI a b m)) ∧ w.grownBy w' none :=
  (add_any a b m w ha hb).mono fun _ _ ⟨he, n, hn⟩ => ⟨he, by rw [hn]; exact grownBy_drewN (World.grownBy.refl w none) n⟩
theorem mul_gr (a b m : Int) (w : World) (ha : U64 a) (hb : U64 b) :
    Calls Tryd.prog 60 #[.int .u64 a, .int .u64 b, .int .u64 m] w fun e w' => e = .returned (.int .u64 (mulI a b m)) ∧ w.grownBy w' none :=
  (mul_any a b m w ha hb).mono fun _ _ ⟨he, n, hn⟩ => ⟨he, by rw [hn]; exact grownBy_drewN (World.grownBy.refl w none) n⟩
theorem emod_U64 (a m : Int) (ha : U64 a) (hm : 0 < m) : U64 (a % m) := by
  obtain ⟨a0, a1⟩ := ha
  have h1 := Int.emod_nonneg a (show m ≠ 0 by omega)
  have h3 := Int.mul_nonneg (Int.le_of_lt hm) (Int.ediv_nonneg a0 (Int.le_of_lt hm))
  have h4 := Int.mul_ediv_add_emod a m
  exact ⟨h1, by omega⟩
end Go.Proofs.YtmbbahlenanpfaaDoor

namespace Go.Proofs.YtmbbahlenanpfaaDoor
open Go Go.RowKit

theorem ret_i64 {a b : Int} (h : a = b) : Ending.returned (.int .i64 a) = .returned (.int .i64 b) := by rw [h]
/-- The value of a list of coefficients, the highest one first. -/
def evalGo (q x : Int) (l : List Int) (o : Int) : Int := l.foldl (fun o y => addI (mulI o x q) y q) o
def evalI (q : Int) (c : List Int) (x : Int) : Int := evalGo q x c.reverse 0
theorem evalGo_U64 (q x : Int) : ∀ (l : List Int) (o : Int), U64 o → U64 (evalGo q x l o)
  | [], _, h => h
  | y :: l, _, _ => evalGo_U64 q x l _ (addI_U64 _ _ _)
theorem evalI_U64 (q : Int) (c : List Int) (x : Int) : U64 (evalI q c x) := evalGo_U64 q x _ _ ⟨by decide, by decide⟩
theorem evalGo_snoc (q x : Int) (l : List Int) (j : Nat) (h : j < l.length) (o : Int) : evalGo q x (l.take (j + 1)) o = addI (mulI (evalGo q x (l.take j) o) x q) l[j] q := by
  unfold evalGo
  rw [List.take_succ_eq_append_getElem h, List.foldl_append]
  rfl
theorem reverse_at (l : List Int) (j : Nat) (h : j < l.length) : l.reverse[j]'(by simpa using h) = l[l.length - 1 - j]'(by omega) := by simp
set_option maxRecDepth 100000 in
set_option maxHeartbeats 2000000 in
theorem eval_any (v : Value) (l : List Int) (x q : Int) (X : Nat → Prop) (w : World) (h : Sl encU X w v l) (hx : U64 x) :
    Calls Tryd.prog 46 #[v, .int .u64 x, .int .u64 q] w fun e w' => e = .returned (.int .u64 (evalI q l x)) ∧ w.grownBy w' none := by
  have H := Lib.hid h
  have HX := Lib.hid hx
  obtain ⟨A, c, rfl, hc1, hc2⟩ := h.form
  have HST : Hid (w.grownBy w none ∧ U64 0 ∧ (0 : Int) = evalGo q x (l.reverse.take 0) 0) := Lib.hid ⟨World.grownBy.refl w none, ⟨by decide, by decide⟩, rfl⟩
  clear h hx
  obtain ⟨n, hn⟩ : ∃ n, n = l.length := ⟨_, rfl⟩
  have HN := Lib.hid hn
  rw [← hn] at hc1 ⊢
  have hn9 : (n : Int) ≤ 9223372036854775807 := by omega
  clear hn
  go_enter Tryd.func46, Tryd.ntmps46
  go_wp2_with fail
  go_loopg [7, 11] n (fun g s7 s11 wx => ∃ (j : Nat) (o : Int), j + g = n ∧ s11 = .int .i64 j ∧ s7 = .int .u64 o ∧ Hid (w.grownBy wx none ∧ U64 o ∧ o = evalGo q x (l.reverse.take j) 0))
  case atStart => exact ⟨0, 0, by omega, rfl, rfl, HST⟩
  case round =>
    obtain ⟨j, o, hj, rfl, rfl, HR⟩ := hrel
    cases gk with
    | zero =>
      obtain rfl : j = n := by omega
      have HE : Hid (o = evalI q l x) := Lib.hid (by rw [HR.out.2.2, HN.out, evalI, List.take_of_length_le (by simp)])
      have HG := Lib.hid HR.out.1
      clear HR HST
      go_wp2
      go_ret
      exact ⟨ret_u64 HE.out, HG.out⟩
    | succ m =>
      have hjn : (j : Int) < (n : Int) := by omega
      have hjN : j < l.length := by rw [← HN.out]; omega
      obtain ⟨r, hr⟩ : ∃ r, r + j + 1 = n := ⟨m, by omega⟩
      have hrl : r < l.length := by rw [← HN.out]; omega
      obtain ⟨g, of, c', e, _, _, hcu, hu⟩ := (H.out.kept HR.out.1).atU hrl
      injection e with e1 e2 e3
      subst e1 e3
      have HGd : Hid (w.grownBy wr.drew none) := Lib.hid (grownBy_drewN HR.out.1 1)
      have HC0 := Lib.hid (fun (w' : World) (hw : wr.drew.grownBy w' none) => (H.out.kept (HGd.out.trans hw)).atU hrl)
      have HC : Hid (∀ w', wr.drew.grownBy w' none → w'.cell? ⟨g, of + r, none⟩ = some (.int .u64 l[r])) := Lib.hid (fun w' hw => by
        obtain ⟨g2, of2, c2, e2, _, _, h3, _⟩ := HC0.out w' hw
        injection e2 with e21 e22 e23
        injection e21 with e21
        injection e21 with e24 e25
        subst e24 e25
        exact h3)
      have HY := Lib.hid hu
      have HO := Lib.hid HR.out.2.1
      have HSN : Hid (addI (mulI o x q) l[r] q = evalGo q x (l.reverse.take (j + 1)) 0) := Lib.hid (by
        rw [evalGo_snoc q x l.reverse j (by simpa using hjN), reverse_at l j hjN, ← HR.out.2.2]
        congr 2
        have := HN.out
        omega)
      have e4 : IntKind.i64.wrap ((n : Int) - 1) = (n : Int) - 1 := IntWalk.i64_in _ (by omega)
      have e5 : IntKind.i64.wrap ((n : Int) - 1 - (j : Int)) = (r : Int) := by rw [IntWalk.i64_in _ (by omega)]; omega
      have hr0 : (0 : Int) ≤ (r : Int) := by omega
      have hrn : (r : Int) < (n : Int) := by omega
      clear hcu hu HC0 HR HST e2
      generalize l[r] = y at *
      go_wp2_with fail
      refine wp_region_mono 15 (by kernel_rfl) (by kernel_rfl) ?_
      -- op 0 (slot 14): move
      refine MonoR.step (Pv.eq (.int .u64 o)) [] (by kernel_rfl) (fun w' hw' => ?_) ?_
      · refine ask_do rfl fun K hK => ?_
        go_simp
        exact hK _ _ rfl rfl (World.grownBy.refl _ none)
      -- op 1 (slot 15): move
      refine MonoR.step (Pv.eq (.int .u64 x)) [] (by kernel_rfl) (fun w' hw' => ?_) ?_
      · refine ask_do rfl fun K hK => ?_
        go_simp
        exact hK _ _ rfl rfl (World.grownBy.refl _ none)
      -- op 2 (slot 16): move
      refine MonoR.step (Pv.eq (.int .u64 q)) [] (by kernel_rfl) (fun w' hw' => ?_) ?_
      · refine ask_do rfl fun K hK => ?_
        go_simp
        exact hK _ _ rfl rfl (World.grownBy.refl _ none)
      -- op 3 (slot 17): call
      refine MonoR.step (Pv.eq (.int .u64 (mulI o x q))) [(0, 14), (1, 15), (2, 16)] (by kernel_rfl) (fun w' hw' => ?_) ?_
      · rintro _ rfl
        rintro _ rfl
        rintro _ rfl
        refine ask_do rfl fun K hK => ?_
        go_simp
        refine (mul_gr o x q w' HO.out HX.out).mono ?_
        rintro e w3 ⟨rfl, hg⟩
        exact hK _ _ rfl rfl hg
      -- op 4 (slot 18): move
      refine MonoR.step (Pv.eq (.slice (some ⟨g, of, none⟩) n c)) [] (by kernel_rfl) (fun w' hw' => ?_) ?_
      · refine ask_do rfl fun K hK => ?_
        go_simp
        exact hK _ _ rfl rfl (World.grownBy.refl _ none)
      -- op 5 (slot 19): move
      refine MonoR.step (Pv.eq (.slice (some ⟨g, of, none⟩) n c)) [] (by kernel_rfl) (fun w' hw' => ?_) ?_
      · refine ask_do rfl fun K hK => ?_
        go_simp
        exact hK _ _ rfl rfl (World.grownBy.refl _ none)
      -- op 6 (slot 20): call
      refine MonoR.step (Pv.eq (.int .i64 (n : Int))) [(5, 19)] (by kernel_rfl) (fun w' hw' => ?_) ?_
      · rintro _ rfl
        refine ask_do rfl fun K hK => ?_
        go_simp
        exact hK _ _ rfl rfl (World.grownBy.refl _ none)
      -- op 7 (slot 21): binOp
      refine MonoR.step (Pv.eq (.int .i64 ((n : Int) - 1))) [(6, 20)] (by kernel_rfl) (fun w' hw' => ?_) ?_
      · rintro _ rfl
        refine ask_do rfl fun K hK => ?_
        go_simp
        exact hK _ _ rfl rfl (World.grownBy.refl _ none)
      -- op 8 (slot 22): move
      refine MonoR.step (Pv.eq (.int .i64 (j : Int))) [] (by kernel_rfl) (fun w' hw' => ?_) ?_
      · refine ask_do rfl fun K hK => ?_
        go_simp
        exact hK _ _ rfl rfl (World.grownBy.refl _ none)
      -- op 9 (slot 23): binOp
      refine MonoR.step (Pv.eq (.int .i64 (r : Int))) [(7, 21), (8, 22)] (by kernel_rfl) (fun w' hw' => ?_) ?_
      · rintro _ rfl
        rintro _ rfl
        refine ask_do rfl fun K hK => ?_
        go_simp
        exact hK _ _ rfl rfl (World.grownBy.refl _ none)
      -- op 10 (slot 24): indexAddr
      refine MonoR.step (Pv.eq (.pointer (some ⟨g, of + r, none⟩))) [(4, 18), (9, 23)] (by kernel_rfl) (fun w' hw' => ?_) ?_
      · rintro _ rfl
        rintro _ rfl
        refine ask_do rfl fun K hK => ?_
        go_simp
        exact hK _ _ rfl rfl (World.grownBy.refl _ none)
      -- op 11 (slot 25): load
      refine MonoR.step (Pv.eq (.int .u64 y)) [(10, 24)] (by kernel_rfl) (fun w' hw' => ?_) ?_
      · rintro _ rfl
        refine ask_do rfl fun K hK => ?_
        have hc := HC.out w' hw'
        go_simp
        exact hK _ _ rfl rfl (World.grownBy.refl _ none)
      -- op 12 (slot 26): move
      refine MonoR.step (Pv.eq (.int .u64 q)) [] (by kernel_rfl) (fun w' hw' => ?_) ?_
      · refine ask_do rfl fun K hK => ?_
        go_simp
        exact hK _ _ rfl rfl (World.grownBy.refl _ none)
      -- op 13 (slot 27): call
      refine MonoR.step (Pv.eq (.int .u64 (addI (mulI o x q) y q))) [(3, 17), (11, 25), (12, 26)] (by kernel_rfl) (fun w' hw' => ?_) ?_
      · rintro _ rfl
        rintro _ rfl
        rintro _ rfl
        refine ask_do rfl fun K hK => ?_
        go_simp
        refine (add_gr (mulI o x q) y q w' (mulI_U64 _ _ _) HY.out).mono ?_
        rintro e w3 ⟨rfl, hg⟩
        exact hK _ _ rfl rfl hg
      -- op 14 (slot 7): assign
      refine MonoR.step (Pv.eq (.int .u64 (addI (mulI o x q) y q))) [(13, 27)] (by kernel_rfl) (fun w' hw' => ?_) ?_
      · rintro _ rfl
        refine ask_do rfl fun K hK => ?_
        go_simp
        exact hK _ _ rfl rfl (World.grownBy.refl _ none)
      intro w3 hw3
      iterate 14 (intro _ _)
      rintro _ rfl
      have HE : Hid (w.grownBy w3 none ∧ U64 (addI (mulI o x q) y q) ∧ addI (mulI o x q) y q = evalGo q x (l.reverse.take (j + 1)) 0) := Lib.hid ⟨HGd.out.trans hw3, addI_U64 _ _ _, HSN.out⟩
      clear hw3 e4 e5
      refine wpList_nil ?_
      simp only [Act.put, List.setIfInBounds_toArray, List.set_cons_zero, List.set_cons_succ]
      go_wp2_with fail
      go_roundg m
      case measure => omega
      case rel => exact ⟨j + 1, _, by omega, by go_num, rfl, HE⟩
set_option maxHeartbeats 400000 in
theorem wide_any (v : Value) (l : List (List Int)) (X : Nat → Prop) (w : World) (h : Sl (encS encU) X w v l) (hb2 : ∀ c ∈ l, c.length ≤ 100000) :
    Calls Tryd.prog 54 #[v] w fun e w' => e = .returned (.int .i64 (wideI l : Nat)) ∧ w' = w := by
  have H := Lib.hid h
  have HB2 := Lib.hid hb2
  obtain ⟨A, c, rfl, hc1, hc2⟩ := h.form
  have HN0 : Hid (0 = wideI (l.take 0)) := Lib.hid rfl
  clear h hb2
  go_enter Tryd.func54, Tryd.ntmps54
  go_wp2_with fail
  go_loopg [3, 8] l.length (fun g s3 s8 wx => ∃ j n : Nat, j + g = l.length ∧ s8 = .int .i64 j ∧ s3 = .int .i64 n ∧ Hid (n = wideI (l.take j)) ∧ Hid (wx = w))
  case atStart => exact ⟨0, 0, by omega, rfl, rfl, HN0, Lib.hid rfl⟩
  case round =>
    obtain ⟨j, n, hj, rfl, rfl, HN, HX⟩ := hrel
    obtain rfl : wr = w := HX.out
    cases gk with
    | zero =>
      obtain rfl : j = l.length := by omega
      have HNW : Hid (n = wideI l) := Lib.hid (by have := HN.out; rwa [List.take_length] at this)
      clear HX HN
      go_wp2
      go_ret
      exact ⟨ret_i64 (by rw [HNW.out]), rfl⟩
    | succ m =>
      have hjn : (j : Int) < (l.length : Int) := by omega
      have hjN : j < l.length := by omega
      obtain ⟨g, o, c', u, e, _, _, hcu, hsu⟩ := H.out.atS hjN
      injection e with e1 e2 e3
      subst e1 e3
      obtain ⟨A1, c1, e1, _, _⟩ := hsu.form
      subst e1
      have HSN : Hid (wideI (l.take (j + 1)) = max n l[j].length) := Lib.hid (by rw [wide_snoc l j hjN, HN.out])
      have hnb : n ≤ 100000 := by rw [HN.out]; exact wide_le _ _ (fun c hc => HB2.out c (List.mem_of_mem_take hc))
      have hlb : l[j].length ≤ 100000 := HB2.out _ (List.getElem_mem hjN)
      clear hsu e2 HN
      generalize l[j].length = n1 at *
      go_wp2_with fail
      all_goals
        go_roundg m
        case measure => omega
        case rel => exact ⟨j + 1, max n n1, by omega, by go_num, by congr 1; omega, Lib.hid HSN.out.symm, Lib.hid rfl⟩
end Go.Proofs.YtmbbahlenanpfaaDoor

namespace Go.Proofs.YtmbbahlenanpfaaDoor
open Go Go.RowKit

section
variable {F : Fence} {n : Nat} {P : Program}
/-- An iterator that goes to its end: of each thing x handed over, Fx x is known where yield is called. -/
def SeqGoes {α : Type} (F : Fence) (n : Nat) (P : Program) (g : Nat) (lb : Array Value) (encs : α → Array Value) (Fx : α → World → Prop) (Kp : World → World → Prop) (S : List α → Prop) (N : Nat) (w : World) : Prop :=
  ∀ (l : Nat) (J : List α → World → Prop) (W : World), Below w.heap.size w W → AbidesFrom W.heap.size J →
    (∀ pre x V, J pre V → Fx x V → pre.length < N → YieldAt F (n - 1) P l (encs x) V fun e V' => e = .returned (.bool true) ∧ J (pre ++ [x]) V' ∧ Kp V V') →
    J [] W → CallsIn F n P g (#[.func (.yield l) #[] #[]] ++ lb) W fun e W' => (∃ v, e = .returned v) ∧ ∃ xs, S xs ∧ J xs W'
/-- How the body ends. -/
def GoesOn {α : Type} (B : Nat) (Kp : World → World → Prop) (I : List α → World → Prop) (xs : List α) (W : World) : Exit → Act → World → Prop := fun e _ W' => e = .normal ∧ KeepsFrom B W W' ∧ Kp W W' ∧ I xs W'
/-- The loop's own record, and the block of what is put off. -/
structure Recs (B : Nat) (r : Loop) (W : World) : Prop where
  lp : W.heap[B + 1]? = some (.loop r)
  df : W.heap[B]? = some (.deferred (some []))
theorem Recs.from {B : Nat} {r : Loop} {W W' : World} (h : Recs B r W) (hk : KeepsFrom B W W') : Recs B r W' := ⟨hk.same _ _ (by omega) h.lp rfl, hk.same _ _ (Nat.le_refl _) h.df rfl⟩
theorem Recs.put {B : Nat} {r : Loop} {W : World} (h : Recs B r W) (r' : Loop) : Recs B r' (W.putObj (B + 1) (.loop r')) := ⟨World.putObj_heap_same (Array.getElem?_eq_some_iff.1 h.lp).1, (World.putObj_heap_other (by omega)).trans h.df⟩
theorem Recs.walk {B : Nat} {r : Loop} {W W' : World} {row : Option Nat} (h : Recs B r W) (hg : W.grownBy W' row) (hr : ∀ k, row = some k → ∃ o : Obj, W.heap[k]? = some o ∧ o.isWalk = true) : Recs B r W' := ⟨(grownBy_keeps hg hr h.lp rfl).trans h.lp, (grownBy_keeps hg hr h.df rfl).trans h.df⟩
theorem wpIn_rangeFunc_goes {α : Type} {g : Operand} {ps : Array Tmp} {assign body : Code} {Q : Exit → Act → World → Prop} {a : Act} {w : World} (hro : F.round = none) (h1 : 1 ≤ n) {gf : Nat} {lb : Array Value} (hg : a.eval g = .func (.func gf) #[] lb) (hFg : F.fn gf)
    (eg : ∀ args w, (callFunc gf args).run P w = .ok (.enter gf args) w) {encs : α → Array Value} {Fx : α → World → Prop} {Kp : World → World → Prop} {S : List α → Prop} {N : Nat} {w0 : World} (hseq : SeqGoes F (n - 1) P gf lb encs Fx Kp S N w0)
    (hKt : ∀ {A B C : World}, Kp A B → Kp B C → Kp A C) (hKb : ∀ (W : World) (l : Nat) (o o' : Obj), w.heap.size ≤ l → W.heap[l]? = some o → o.isCells = false → o.isWalk = false → Kp W (W.putObj l o')) (hb0 : Below w0.heap.size w0 w) (hps : ∀ x, (encs x).size = ps.size)
    (I : List α → World → Prop) (hI : OwnFrom w.heap.size I) (h0 : I [] w) (Ax : α → Act → World → Prop) (hAx : ∀ x a', OwnFrom w.heap.size (fun (_ : Unit) W => Ax x a' W))
    (hassign : ∀ (l : Nat) (pre : List α) (x : α) (W : World) (K : Act → World → Prop), I pre W → Fx x W → (∀ a' W', KeepsFrom w.heap.size W W' → Kp W W' → I pre W' → Ax x a' W' → K a' W') →
      assign.wpIn (F.inRound l) (n - 1 - 1) P (Exit.then K (fun _ _ _ => False)) { tmps := (ps.zip (encs x)).foldl (fun t (p, v) => t.setIfInBounds p v) a.tmps, defers := [] } W)
    (hbody : ∀ (l : Nat) (pre : List α) (x : α) (a' : Act) (W : World), w.heap.size ≤ l → I pre W → Ax x a' W → pre.length < N → body.wpIn (F.inRound l) (n - 1 - 1) P (GoesOn w.heap.size Kp I (pre ++ [x]) W) a' W)
    (hdone : ∀ (D : Nat) (xs : List α) (W : World), w.heap.size ≤ D → S xs → I xs W → W.heap[D]? = some (.deferred (some [])) → Q .normal { a with defers := { target := .collected D, args := #[] } :: a.defers } W) :
    (Code.rangeFunc g ps assign body).wpIn F n P Q a w := by
  refine wpIn_rangeFunc fun fn hfn => ?_
  rw [hro]
  let rec0 : Loop := { state := .ready, pending := none, fn, tmps := a.tmps, params := ps, assign, body, defers := w.heap.size }
  let V0 := (w.alloc (.deferred (some []))).alloc (.loop rec0)
  have hR0 : Recs w.heap.size rec0 V0 := ⟨by have := World.alloc_heap_new (w.alloc (.deferred (some []))) (.loop rec0); rwa [World.size_alloc] at this, (Below.heap_alloc _ _ _ (by simp)).trans (World.alloc_heap_new w _)⟩
  have hV0 : V0.heap.size = w.heap.size + 2 := by simp [V0]
  have hI0 : I [] V0 := hI.alloc _ (hI.alloc _ h0)
  have hB0 : Below w0.heap.size w0 V0 := hb0.trans ((((Below.refl _ w).alloc (Nat.le_refl _) _).alloc (by simp) _).mono hb0.size)
  refine ⟨w.heap.size + 1, [{ target := .collected w.heap.size, args := #[] }], V0, { target := .fn (.func gf) lb, args := #[.func (.yield (w.heap.size + 1)) #[] #[]] }, V0, gf, #[.func (.yield (w.heap.size + 1)) #[] #[]] ++ lb, V0, run_enterLoop_outer _ _ _ _ _, ?_, ?_, ?_, fun _ => h1, ?_⟩
  · simp only [resolve, hg]
    simp [go_sem]
  · intro f' hf'
    simp [Target.leads] at hf'
    subst hf'
    exact hFg
  · simp [invoke, go_sem, eg]
  refine (hseq (w.heap.size + 1) (fun pre W => I pre W ∧ Recs w.heap.size rec0 W) V0 hB0 (fun s A B row hs hgr hr => ⟨hI s A B row hs.1 hgr fun r e => ?_, hs.2.walk hgr fun r e => (hr r e).2⟩) ?_ ⟨hI0, hR0⟩).mono ?_
  · obtain ⟨h2, o, ho, hw⟩ := hr r e
    exact ⟨by rw [hV0] at h2; omega, o, ho, Obj.not_cells_of_walk hw⟩
  · rintro pre x V ⟨hi, hr⟩ hfx hlen
    refine ⟨fn, _, assign, body, run_yield hr.lp (hps x), roundIn_of_wpIn hfn (hassign _ pre x V _ hi hfx fun a' V1 hk1 hp1 hi1 hx1 => ?_)⟩
    have hr1 := hr.from hk1
    refine ⟨_, run_beginRound hr1.lp rfl, ?_⟩
    have hr2 := hr1.put { rec0 with state := .busy }
    have hp2 := hKb V1 (w.heap.size + 1) _ (.loop { rec0 with state := .busy }) (by omega) hr1.lp rfl rfl
    refine wpIn_mono (hbody _ pre x a' _ (by omega) (hI.putObj _ hi1 (by omega) hr1.lp rfl) ((hAx x a').putObj (s := ()) _ hx1 (by omega) hr1.lp rfl) hlen) ?_
    rintro e a3 V3 ⟨rfl, hk3, hp3, hi3⟩
    have hr3 := hr2.from hk3
    refine ⟨_, _, run_endRound none hr3.lp, rfl, ⟨hI.putObj _ hi3 (by omega) hr3.lp rfl, hr3.put rec0⟩, hKt hp1 (hKt (hKt hp2 hp3) (hKb _ _ _ _ (by omega) hr3.lp rfl rfl))⟩
  · rintro e V2 ⟨⟨v, rfl⟩, xs, hS, hi, hr⟩
    exact ⟨none, _, run_endLoop hr.lp (by simp [rec0]), hdone _ xs _ (Nat.le_refl _) hS (hI.putObj _ hi (by omega) hr.lp rfl) ((World.putObj_heap_other (by omega)).trans hr.df)⟩
end
end Go.Proofs.YtmbbahlenanpfaaDoor

namespace Go.Proofs.YtmbbahlenanpfaaDoor
open Go Go.RowKit Go.Shelf

attribute [local go_sem] Oper.semAt_some
/-- The j-th numbers of all lists; 0 where there is none. -/
def colZ (f : List (List Int)) (j : Nat) : List Int := f.map fun c => c[j]?.getD 0
theorem colZ_snoc (l : List (List Int)) (i j : Nat) (h : i < l.length) : colZ (l.take (i + 1)) j = colZ (l.take i) j ++ [l[i][j]?.getD 0] := map_take_snoc' _ l i h
theorem colZ_length (f : List (List Int)) (j : Nat) : (colZ f j).length = f.length := by simp [colZ]
set_option maxHeartbeats 400000 in
theorem reads_one (A : Option Addr) (m c : Nat) (w : World) :
    Calls Tryd.prog 74 #[.slice A m c] w fun e w' => e = .returned (.func (.func 81) #[] #[.pointer (some ⟨w.heap.size, 0, none⟩)]) ∧ w' = w.alloc (.cells #[.slice A m c] 28) := by
  go_enter Tryd.func74, Tryd.ntmps74
  go_wp2
  go_ret
  exact ⟨rfl, rfl⟩
set_option maxHeartbeats 400000 in
theorem readsAt_any (B : Nat) (v : Value) (f : List (List Int)) (i j : Nat) (X : Nat → Prop) (w : World) (hb : Boxed w B 28 v) (h : Sl (encS encU) X w v f) (hi : i < f.length) (hj : (j : Int) ≤ 9223372036854775807) :
    Calls Tryd.prog 81 #[.int .i64 i, .int .i64 j, .pointer (some ⟨B, 0, none⟩)] w fun e w' => e = .returned (.int .u64 (f[i][j]?.getD 0)) ∧ w' = w := by
  have hc := hb.cell
  obtain ⟨g, o, c', u, e, _, _, hcu, hsu⟩ := h.atS hi
  subst e
  have hi0 : (0 : Int) ≤ (i : Int) := by omega
  have hj0 : (0 : Int) ≤ (j : Int) := by omega
  have hil : (i : Int) < (f.length : Int) := by omega
  obtain ⟨A1, c1, rfl, _, _⟩ := hsu.form
  by_cases hl : j < f[i].length
  · obtain ⟨g1, o1, c2, e, _, _, hcv, _⟩ := hsu.atU hl
    injection e with e1 e2 e3
    subst e1 e3
    have hli : (j : Int) < (f[i].length : Int) := by omega
    rw [show f[i][j]?.getD 0 = f[i][j] by rw [List.getElem?_eq_getElem hl]; rfl]
    generalize f[i][j] = y at *
    clear hsu hb h e2
    generalize f[i].length = m at *
    go_enter Tryd.func81, Tryd.ntmps81
    go_wp2
    go_ret
    exact ⟨rfl, rfl⟩
  · have hli : ¬ (j : Int) < (f[i].length : Int) := by omega
    have hli2 : (f[i].length : Int) ≤ (j : Int) := by omega
    rw [show f[i][j]?.getD 0 = 0 by rw [List.getElem?_eq_none (by omega)]; rfl]
    clear hsu hb h
    generalize f[i].length = m at *
    go_enter Tryd.func81, Tryd.ntmps81
    go_wp2
    go_ret
    exact ⟨rfl, rfl⟩
/-- What columns tells: a function that has f, and how f is read, in boxes. -/
def ColsOut (A : Option Addr) (m c : Nat) (w : World) (e : Ending) (w' : World) : Prop :=
  e = .returned (.func (.func 75) #[] #[.pointer (some ⟨w.heap.size, 0, none⟩), .pointer (some ⟨w.heap.size + 1 + 1, 0, none⟩)]) ∧ Boxed w' w.heap.size 28 (.slice A m c) ∧ Boxed w' (w.heap.size + 1) 28 (.slice A m c) ∧
  Boxed w' (w.heap.size + 1 + 1) 93 (.func (.func 81) #[] #[.pointer (some ⟨w.heap.size + 1, 0, none⟩)]) ∧ w.grownBy w' none ∧ w'.heap.size = w.heap.size + 1 + 1 + 1
set_option maxHeartbeats 400000 in
theorem columns_any (A : Option Addr) (m c : Nat) (w : World) :
    Calls Tryd.prog 55 #[.slice A m c] w (ColsOut A m c w) := by
  have e1 : (w.alloc (.cells #[.slice A m c] 28)).heap.size = w.heap.size + 1 := by simp
  have e2 : ((w.alloc (.cells #[.slice A m c] 28)).alloc (.cells #[.slice A m c] 28)).heap.size = w.heap.size + 1 + 1 := by simp
  have b3 := Boxed.new ((w.alloc (.cells #[.slice A m c] 28)).alloc (.cells #[.slice A m c] 28)) 93 .nilFunc
  rw [e2] at b3
  have hc3 := b3.cell
  have hf3 := b3.frozen
  have hrun : (store ⟨w.heap.size + 1 + 1, 0, none⟩ (.func (.func 81) #[] #[.pointer (some ⟨w.heap.size + 1, 0, none⟩)])).run Tryd.prog (((w.alloc (.cells #[.slice A m c] 28)).alloc (.cells #[.slice A m c] 28)).alloc (.cells #[.nilFunc] 93)) = .ok () ((((w.alloc (.cells #[.slice A m c] 28)).alloc (.cells #[.slice A m c] 28)).alloc (.cells #[.nilFunc] 93)).setCell ⟨w.heap.size + 1 + 1, 0, none⟩ (.func (.func 81) #[] #[.pointer (some ⟨w.heap.size + 1, 0, none⟩)])) := by
    simp only [store, Sem.run, hc3, hf3]
    rfl
  have HF : Hid (ColsOut A m c w (.returned (.func (.func 75) #[] #[.pointer (some ⟨w.heap.size, 0, none⟩), .pointer (some ⟨w.heap.size + 1 + 1, 0, none⟩)])) (((w.alloc (.cells #[.slice A m c] 28)).alloc (.cells #[.slice A m c] 28)).alloc (.cells #[.func (.func 81) #[] #[.pointer (some ⟨w.heap.size + 1, 0, none⟩)]] 93))) := Lib.hid (by
    have b1 := ((Boxed.new w 28 (.slice A m c)).alloc (.cells #[.slice A m c] 28)).alloc (.cells #[.func (.func 81) #[] #[.pointer (some ⟨w.heap.size + 1, 0, none⟩)]] 93)
    have b2 := (Boxed.new (w.alloc (.cells #[.slice A m c] 28)) 28 (.slice A m c)).alloc (.cells #[.func (.func 81) #[] #[.pointer (some ⟨w.heap.size + 1, 0, none⟩)]] 93)
    have b4 := Boxed.new ((w.alloc (.cells #[.slice A m c] 28)).alloc (.cells #[.slice A m c] 28)) 93 (.func (.func 81) #[] #[.pointer (some ⟨w.heap.size + 1, 0, none⟩)])
    rw [e1] at b2
    rw [e2] at b4
    exact ⟨rfl, b1, b2, b4, ((World.grownBy_alloc w _ none).trans (World.grownBy_alloc _ _ none)).trans (World.grownBy_alloc _ _ none), by simp⟩)
  clear b3 e1 e2
  go_enter Tryd.func55, Tryd.ntmps55
  go_wp2_with fail
  refine (reads_one A m c _).mono ?_
  rintro e w1 ⟨rfl, rfl⟩
  go_wp2
  go_ret
  exact HF.out
/-- A column as it is handed over: its place, the slice, the numbers. -/
structure Colx where
  j : Nat
  v : Value
  c : List Int
/-- What a round of the iterator keeps: what lay below n₀, and three boxes. -/
def Kp3 (n₀ B1 B2 B3 : Nat) (A B : World) : Prop := Below n₀ A B ∧ B.heap[B1]? = A.heap[B1]? ∧ B.heap[B2]? = A.heap[B2]? ∧ B.heap[B3]? = A.heap[B3]?
theorem Kp3.refl (n₀ B1 B2 B3 : Nat) (A : World) : Kp3 n₀ B1 B2 B3 A A := ⟨Below.refl _ _, rfl, rfl, rfl⟩
theorem Kp3.trans {n₀ B1 B2 B3 : Nat} {A B C : World} (h : Kp3 n₀ B1 B2 B3 A B) (k : Kp3 n₀ B1 B2 B3 B C) : Kp3 n₀ B1 B2 B3 A C := ⟨h.1.trans k.1, k.2.1.trans h.2.1, k.2.2.1.trans h.2.2.1, k.2.2.2.trans h.2.2.2⟩
theorem Kp3.grown {n₀ B1 B2 B3 : Nat} {A B : World} (hg : A.grownBy B none) (hn : n₀ ≤ A.heap.size) (h1 : B1 < A.heap.size) (h2 : B2 < A.heap.size) (h3 : B3 < A.heap.size) : Kp3 n₀ B1 B2 B3 A B :=
  ⟨(below_grown hg).mono hn, hg.block _ h1 (by simp), hg.block _ h2 (by simp), hg.block _ h3 (by simp)⟩
theorem Kp3.b {n₀ B1 B2 B3 : Nat} {w : World} (hn : n₀ ≤ w.heap.size) (h1 : B1 < w.heap.size) (h2 : B2 < w.heap.size) (h3 : B3 < w.heap.size) (W : World) (l : Nat) (o o' : Obj) (hl : w.heap.size ≤ l) (h : W.heap[l]? = some o) (k1 : o.isCells = false) (k2 : o.isWalk = false) : Kp3 n₀ B1 B2 B3 W (W.putObj l o') := by
  have hlt := (Array.getElem?_eq_some_iff.1 h).1
  have hg := grownBy_putObj' W l o'
  exact ⟨belowK_b hn W l o o' hl h k1 k2, hg.block _ (by omega) (fun e => by injection e with e; omega), hg.block _ (by omega) (fun e => by injection e with e; omega), hg.block _ (by omega) (fun e => by injection e with e; omega)⟩
def colFx (n₁ n : Nat) (x : Colx) (W : World) : Prop := Sl encU (fun g => n₁ ≤ g) W x.v x.c ∧ x.j < n
def colsOf (f : List (List Int)) : List (Nat × List Int) := (List.range (wideI f)).map fun j => (j, colZ f j)
set_option maxRecDepth 100000 in
set_option maxHeartbeats 2000000 in
theorem columns_goes (n : Nat) (hn : 1 ≤ n) (B1 B2 B3 : Nat) (v : Value) (f : List (List Int)) (X : Nat → Prop) (w₀ w1 : World) (h01 : Below w₀.heap.size w₀ w1) (hb1 : Boxed w1 B1 28 v) (hb2 : Boxed w1 B2 28 v) (hb3 : Boxed w1 B3 93 (.func (.func 81) #[] #[.pointer (some ⟨B2, 0, none⟩)])) (hf : Sl (encS encU) X w₀ v f) (hl1 : f.length ≤ 100000) (hl2 : ∀ c ∈ f, c.length ≤ 100000) :
    SeqGoes Fence.wide n Tryd.prog 75 #[.pointer (some ⟨B1, 0, none⟩), .pointer (some ⟨B3, 0, none⟩)] (fun x : Colx => #[.int .i64 x.j, x.v]) (colFx w1.heap.size (wideI f)) (Kp3 w₀.heap.size B1 B2 B3) (fun xs => xs.map (fun x => (x.j, x.c)) = colsOf f) (wideI f) w1 := by
  intro l J W hW hJ hY h0
  refine callsIn_of_wp Tryd.func75 rfl trivial ?_ rfl
  simp only [Tryd.ntmps75, List.size_toArray, List.length_cons, List.length_nil, Nat.reduceAdd, Nat.reduceSub, Array.replicate_succ, Array.replicate_zero, List.push_toArray, List.append_toArray, List.nil_append, List.cons_append]
  have HB1 : Hid (Boxed W B1 28 v) := Lib.hid ((hW.5 B1 hb1.lt).trans hb1)
  have HB2 : Hid (Boxed W B2 28 v) := Lib.hid ((hW.5 B2 hb2.lt).trans hb2)
  have HB3 : Hid (Boxed W B3 93 (.func (.func 81) #[] #[.pointer (some ⟨B2, 0, none⟩)])) := Lib.hid ((hW.5 B3 hb3.lt).trans hb3)
  have HG0 : Hid (w₀.grownBy W none) := Lib.hid (grown_of_below (h01.trans (hW.mono h01.size)))
  have HWS : Hid (w1.heap.size ≤ W.heap.size) := Lib.hid hW.size
  have HF := Lib.hid hf
  have HLC := Lib.hid hl2
  have HWB : Hid (wideI f ≤ 100000) := Lib.hid (wide_le f _ hl2)
  obtain ⟨A1, c1, rfl, _, _⟩ := hf.form
  have HLB1 := Lib.hid hb1.lt
  have HLB2 := Lib.hid hb2.lt
  have HLB3 := Lib.hid hb3.lt
  have ca := HB1.out.cell
  have HWI := Lib.hid (wide_any _ f X W (HF.out.kept HG0.out) hl2)
  have HH0 := Lib.hid h0
  have HL : Hid ((colsOf f).length = wideI f) := Lib.hid (by simp [colsOf])
  clear hb1 hb2 hb3 hf h0 hl2
  obtain ⟨N, hN⟩ : ∃ N, N = wideI f := ⟨_, rfl⟩
  rw [← hN] at HWI HWB HL hY
  have HN := Lib.hid hN
  have HN9 : N ≤ 100000 := HWB.out
  clear hN
  gi_wp2_with (refine ⟨trivial, ?_⟩; refine (callsIn_wide.2 HWI.out).mono ?_; rintro e w' ⟨rfl, hw'⟩; obtain rfl : W = w' := hw'.symm)
  gi_loopw [9] (fun s9 wr => ∃ (k : Nat) (pre : List Colx), k ≤ N ∧ s9 = .int .i64 k ∧ Hid (pre.map (fun x => (x.j, x.c)) = (colsOf f).take k ∧ J pre wr ∧ Kp3 w₀.heap.size B1 B2 B3 W wr)) (fun s9 _ => N - (intOf s9).toNat)
  case atStart => exact ⟨0, [], by omega, rfl, Lib.hid ⟨rfl, HH0.out, Kp3.refl _ _ _ _ _⟩⟩
  case round =>
    rename World => wr
    obtain ⟨k, pre, hk, rfl, HX⟩ := hrel
    by_cases hlt : k < N
    · have hki : (k : Int) < (N : Int) := by omega
      have hkb : (k : Int) ≤ 9223372036854775807 := by omega
      have hpl : pre.length = k := by have := congrArg List.length HX.out.1; simpa [HL.out, Nat.min_eq_left hk] using this
      have HBr1 : Hid (Boxed wr B1 28 (.slice A1 f.length c1)) := Lib.hid (HX.out.2.2.2.1.trans HB1.out)
      have HBr2 : Hid (Boxed wr B2 28 (.slice A1 f.length c1)) := Lib.hid (HX.out.2.2.2.2.1.trans HB2.out)
      have HBr3 : Hid (Boxed wr B3 93 (.func (.func 81) #[] #[.pointer (some ⟨B2, 0, none⟩)])) := Lib.hid (HX.out.2.2.2.2.2.trans HB3.out)
      have HGW : Hid (w₀.grownBy wr none) := Lib.hid (grown_of_below ((below_grown HG0.out).trans HX.out.2.2.1))
      have HWR : Hid (W.heap.size ≤ wr.heap.size) := Lib.hid HX.out.2.2.1.size
      have hca := HBr1.out.cell
      clear ca
      have HI0 : Hid (Acc encU wr.heap.size 22 (fun g => wr.heap.size ≤ g) wr (.slice none 0 0) (colZ (f.take 0) k) ∧ wr.grownBy wr none) := Lib.hid ⟨Acc.nil _ _ _ _ _, World.grownBy.refl _ _⟩
      gi_wp2
      refine wpIn_wide.2 ?_
      go_loopg [5, 14] f.length (fun g s5 s14 wx => ∃ i : Nat, i + g = f.length ∧ s14 = .int .i64 i ∧ Hid (Acc encU wr.heap.size 22 (fun g => wr.heap.size ≤ g) wx s5 (colZ (f.take i) k) ∧ wr.grownBy wx none))
      case atStart => exact ⟨0, by omega, rfl, HI0⟩
      case round =>
        rename World => wi
        obtain ⟨i, hi, rfl, HY⟩ := hrel
        cases gk with
        | zero =>
          obtain rfl : i = f.length := by omega
          have HJi : Hid (J pre wi) := Lib.hid (hJ _ wr wi none HX.out.2.1 HY.out.2 (by simp))
          have HC : Hid (Sl encU (fun g => w1.heap.size ≤ g) wi u5 (colZ f k)) := Lib.hid (by have := HY.out.1.sl; rw [List.take_length] at this; exact this.more (fun g _ hg => by have := HWS.out; have := HWR.out; omega))
          obtain ⟨fn, tmps, assign, body, hy, hR⟩ := hY pre ⟨k, u5, colZ f k⟩ wi HJi.out ⟨HC.out, hlt⟩ (by rw [hpl]; exact hlt)
          dsimp only at hy
          have HR := Lib.hid hR
          have HPN : Hid ((pre ++ [(⟨k, u5, colZ f k⟩ : Colx)]).map (fun x => (x.j, x.c)) = (colsOf f).take (k + 1)) := Lib.hid (by
            have hkz : k < (colsOf f).length := by rw [HL.out]; exact hlt
            rw [List.map_append, HX.out.1, List.take_succ_eq_append_getElem hkz]
            simp [colsOf])
          have HKr : Hid (Kp3 w₀.heap.size B1 B2 B3 W wi) := Lib.hid (HX.out.2.2.trans (Kp3.grown HY.out.2 (Nat.le_trans HGW.out.size (Nat.le_refl _)) HBr1.out.lt HBr2.out.lt HBr3.out.lt))
          clear hR HI0 HY
          go_wp2_with fail
          gi_wp2_with ((with_reducible refine HR.out.mono ?_); rintro e W' ⟨rfl, hJ2, hK2⟩)
          exact ⟨⟨k + 1, _, by omega, by go_num, Lib.hid ⟨HPN.out, hJ2, HKr.out.trans hK2⟩⟩, by simp [intOf]; omega⟩
        | succ m =>
          have hin : (i : Int) < (f.length : Int) := by omega
          have hiN : i < f.length := by omega
          have HSf := Lib.hid ((HF.out.kept HGW.out).kept HY.out.2)
          have hB2 := HBr2.out.kept HY.out.2 (by simp)
          have hB3 := HBr3.out.kept HY.out.2 (by simp)
          have hc3 := hB3.cell
          have HCT := Lib.hid (readsAt_any B2 _ f i k X wi hB2 HSf.out hiN hkb)
          have HSN := Lib.hid (colZ_snoc f i k hiN)
          have HUX : Hid (U64 (f[i][k]?.getD 0)) := Lib.hid (by
            obtain ⟨_, _, _, u, _, _, _, _, hsu⟩ := HSf.out.atS hiN
            exact getD_U64 k hsu)
          have HA := Lib.hid HY.out.1
          have HGY := Lib.hid HY.out.2
          have HLB : Hid (((colZ (f.take i) k).length + 1) * 8 ≤ 140737488355328) := Lib.hid (by rw [colZ_length]; simp; omega)
          clear hB2 hB3 HY HI0 HSf
          generalize f[i][k]?.getD 0 = y at *
          go_wp2_with fail
          refine HCT.out.mono ?_
          rintro e w' ⟨rfl, rfl⟩
          go_wp2_with (at_builtin; refine wpList_pushG rfl (.tmp 17) (.tmp 22) rfl (E := encU) el_u64 HGY.out HA.out (fun _ h => h) ⟨rfl, HUX.out⟩ HLB.out rfl rfl ?_)
          intro v2 w2 hacc2 hg2 hgo
          have HFIN : Hid (Acc encU wr.heap.size 22 (fun g => wr.heap.size ≤ g) w2 v2 (colZ (f.take (i + 1)) k) ∧ wr.grownBy w2 none) := Lib.hid ⟨by rw [HSN.out]; exact hacc2, hg2⟩
          clear hacc2 hg2 hgo hc3
          go_wp2_with fail
          go_roundg m
          case measure => omega
          case rel => exact ⟨i + 1, by omega, by go_num, HFIN⟩
    · obtain rfl : k = N := by omega
      gi_wp2
      go_end0
      exact ⟨⟨_, rfl⟩, pre, by rw [HX.out.1, ← HL.out, List.take_length], HX.out.2.1⟩
end Go.Proofs.YtmbbahlenanpfaaDoor

namespace Go.Proofs.YtmbbahlenanpfaaDoor
open Go Go.RowKit Go.Shelf

attribute [local go_sem] Oper.semAt_some
/-- The row, and the column, at a place. -/
def rowI (q : Int) (f : List (List Int)) (x : Int) : List Int := (List.range (wideI f)).map fun j => evalI q (colZ f j) x
def colV (q : Int) (f : List (List Int)) (y : Int) : List Int := f.map fun c => evalI q c y
/-- What the array holds behind some rounds. -/
def outArr (q x : Int) (n : Nat) (xs : List (Nat × List Int)) : List Int := xs.foldl (fun h e => h.set e.1 (evalI q e.2 x)) (List.replicate n 0)
theorem foldl_set_length (q x : Int) : ∀ (xs : List (Nat × List Int)) (h : List Int), (xs.foldl (fun h e => h.set e.1 (evalI q e.2 x)) h).length = h.length
  | [], _ => rfl
  | e :: xs, h => (foldl_set_length q x xs _).trans (List.length_set ..)
theorem outArr_length (q x : Int) (n : Nat) (xs : List (Nat × List Int)) : (outArr q x n xs).length = n := by
  unfold outArr
  rw [foldl_set_length]
  simp
theorem outArr_snoc (q x : Int) (n : Nat) (xs : List (Nat × List Int)) (e : Nat × List Int) : outArr q x n (xs ++ [e]) = (outArr q x n xs).set e.1 (evalI q e.2 x) := by simp [outArr]
theorem outArr_upto (q x : Int) (f : List (List Int)) (n : Nat) : ∀ k, k ≤ n → ∀ i (hi : i < (outArr q x n ((List.range k).map fun j => (j, colZ f j))).length), (outArr q x n ((List.range k).map fun j => (j, colZ f j)))[i] = if i < k then evalI q (colZ f i) x else 0
  | 0, _, i, hi => by simp [outArr]
  | k + 1, hk, i, hi => by
    have e : (List.range (k + 1)).map (fun j => (j, colZ f j)) = (List.range k).map (fun j => (j, colZ f j)) ++ [(k, colZ f k)] := by simp [List.range_succ]
    simp only [e, outArr_snoc]
    rw [List.getElem_set]
    split
    · rename_i h
      subst h
      simp
    · rename_i h
      rw [outArr_upto q x f n k (by omega) i]
      by_cases h1 : i < k
      · simp [h1, show i < k + 1 by omega]
      · simp [h1, show ¬ i < k + 1 by omega]
theorem outArr_all (q x : Int) (f : List (List Int)) : outArr q x (wideI f) (colsOf f) = rowI q f x := by
  refine List.ext_getElem (by rw [outArr_length]; simp [rowI]) fun i h1 h2 => ?_
  have h3 : i < wideI f := by rwa [outArr_length] at h1
  have := outArr_upto q x f (wideI f) (wideI f) (Nat.le_refl _) i h1
  rw [show (outArr q x (wideI f) (colsOf f))[i] = _ from this]
  simp [h3, rowI]
set_option maxRecDepth 100000 in
set_option maxHeartbeats 2000000 in
theorem row_in (n0 : Nat) (hn0 : 6 ≤ n0) (v : Value) (f : List (List Int)) (x q : Int) (X : Nat → Prop) (w : World) (hf : Sl (encS encU) X w v f) (hx : U64 x) (hl1 : f.length ≤ 100000) (hl2 : ∀ c ∈ f, c.length ≤ 100000) :
    CallsIn Fence.wide n0 Tryd.prog 22 #[v, .int .u64 x, .int .u64 q] w (Gives encU (fun g => w.heap.size ≤ g) w (rowI q f x)) := by
  have h1 : 1 ≤ n0 := by omega
  have HF := Lib.hid hf
  have HX := Lib.hid hx
  have HWB : Hid (wideI f ≤ 100000) := Lib.hid (wide_le f _ hl2)
  obtain ⟨A1, c1, rfl, _, _⟩ := hf.form
  have HWI := Lib.hid (fun w' (hw : w.grownBy w' none) => wide_any _ f X w' (hf.kept hw) hl2)
  clear hf hx
  obtain ⟨n, hn⟩ : ∃ n, n = wideI f := ⟨_, rfl⟩
  have HN := Lib.hid hn
  rw [← hn] at HWI HWB
  have hn9 : n ≤ 100000 := HWB.out
  have hmk := run_make_row' (P := Tryd.prog) 25 22 (.int .u64 0) 8 Tryd.underlying25 info_u64 rfl .i64 .i64 n (by omega) (by omega)
  have HG2 : Hid (w.grownBy ((w.alloc (.cells #[.int .u64 x] 22)).alloc (.cells #[.int .u64 q] 22)) none) := Lib.hid ((World.grownBy_alloc w _ none).trans (World.grownBy_alloc _ _ none))
  clear hn
  refine callsIn_of_wp_marks Tryd.func22 rfl trivial ?_ rfl
  simp only [Tryd.ntmps22, List.size_toArray, List.length_cons, List.length_nil, Nat.reduceAdd, Nat.reduceSub, Array.replicate_succ, Array.replicate_zero, List.push_toArray, List.append_toArray, List.nil_append, List.cons_append]
  gi_wp2_with (refine ⟨trivial, ?_⟩; refine (callsIn_wide.2 (HWI.out _ HG2.out)).mono ?_; rintro e w' ⟨rfl, hw'⟩; subst hw')
  have HBS : Hid (Bk ((((w.alloc (.cells #[.int .u64 x] 22)).alloc (.cells #[.int .u64 q] 22)).alloc (.cells (madeCells #[.int .u64 0] n) 22)).alloc (.cells #[.slice (some ⟨w.heap.size + 1 + 1, 0, none⟩) n n] 25)) w.heap.size 22 #[.int .u64 x] ∧ Bk ((((w.alloc (.cells #[.int .u64 x] 22)).alloc (.cells #[.int .u64 q] 22)).alloc (.cells (madeCells #[.int .u64 0] n) 22)).alloc (.cells #[.slice (some ⟨w.heap.size + 1 + 1, 0, none⟩) n n] 25)) (w.heap.size + 1) 22 #[.int .u64 q] ∧ Bk ((((w.alloc (.cells #[.int .u64 x] 22)).alloc (.cells #[.int .u64 q] 22)).alloc (.cells (madeCells #[.int .u64 0] n) 22)).alloc (.cells #[.slice (some ⟨w.heap.size + 1 + 1, 0, none⟩) n n] 25)) (w.heap.size + 1 + 1) 22 (nums (List.replicate n 0)).toArray ∧ Boxed ((((w.alloc (.cells #[.int .u64 x] 22)).alloc (.cells #[.int .u64 q] 22)).alloc (.cells (madeCells #[.int .u64 0] n) 22)).alloc (.cells #[.slice (some ⟨w.heap.size + 1 + 1, 0, none⟩) n n] 25)) (w.heap.size + 1 + 1 + 1) 25 (.slice (some ⟨w.heap.size + 1 + 1, 0, none⟩) n n) ∧ w.grownBy ((((w.alloc (.cells #[.int .u64 x] 22)).alloc (.cells #[.int .u64 q] 22)).alloc (.cells (madeCells #[.int .u64 0] n) 22)).alloc (.cells #[.slice (some ⟨w.heap.size + 1 + 1, 0, none⟩) n n] 25)) none ∧ ((((w.alloc (.cells #[.int .u64 x] 22)).alloc (.cells #[.int .u64 q] 22)).alloc (.cells (madeCells #[.int .u64 0] n) 22)).alloc (.cells #[.slice (some ⟨w.heap.size + 1 + 1, 0, none⟩) n n] 25)).heap.size = w.heap.size + 1 + 1 + 1 + 1) := Lib.hid (by
    have e1 : (w.alloc (.cells #[.int .u64 x] 22)).heap.size = w.heap.size + 1 := by simp
    have e2 : ((w.alloc (.cells #[.int .u64 x] 22)).alloc (.cells #[.int .u64 q] 22)).heap.size = w.heap.size + 1 + 1 := by simp
    have e3 : (((w.alloc (.cells #[.int .u64 x] 22)).alloc (.cells #[.int .u64 q] 22)).alloc (.cells (madeCells #[.int .u64 0] n) 22)).heap.size = w.heap.size + 1 + 1 + 1 := by simp
    have b1 := (Bk.new (w.alloc (.cells #[.int .u64 x] 22)) 22 #[.int .u64 q]).alloc (.cells (madeCells #[.int .u64 0] n) 22) |>.alloc (.cells #[.slice (some ⟨w.heap.size + 1 + 1, 0, none⟩) n n] 25)
    have b2 := (Bk.new ((w.alloc (.cells #[.int .u64 x] 22)).alloc (.cells #[.int .u64 q] 22)) 22 (madeCells #[.int .u64 0] n)).alloc (.cells #[.slice (some ⟨w.heap.size + 1 + 1, 0, none⟩) n n] 25)
    have b3 := Boxed.new (((w.alloc (.cells #[.int .u64 x] 22)).alloc (.cells #[.int .u64 q] 22)).alloc (.cells (madeCells #[.int .u64 0] n) 22)) 25 (.slice (some ⟨w.heap.size + 1 + 1, 0, none⟩) n n)
    rw [e1] at b1
    rw [e2] at b2
    rw [e3] at b3
    exact ⟨(((Bk.new w 22 #[.int .u64 x]).alloc _).alloc _).alloc _, b1, b2.of_eq (Array.toList_inj.1 (by rw [toList_madeCells_one]; simp [nums])), b3, (HG2.out.trans (World.grownBy_alloc _ _ none)).trans (World.grownBy_alloc _ _ none), by simp⟩)
  have HCO := Lib.hid (columns_any A1 f.length c1 ((((w.alloc (.cells #[.int .u64 x] 22)).alloc (.cells #[.int .u64 q] 22)).alloc (.cells (madeCells #[.int .u64 0] n) 22)).alloc (.cells #[.slice (some ⟨w.heap.size + 1 + 1, 0, none⟩) n n] 25)))
  obtain ⟨Wm, hWm⟩ : ∃ Wm, ((((w.alloc (.cells #[.int .u64 x] 22)).alloc (.cells #[.int .u64 q] 22)).alloc (.cells (madeCells #[.int .u64 0] n) 22)).alloc (.cells #[.slice (some ⟨w.heap.size + 1 + 1, 0, none⟩) n n] 25)) = Wm := ⟨_, rfl⟩
  rw [hWm] at HBS HCO ⊢
  clear hWm hmk HWI HG2
  refine ⟨trivial, ?_⟩
  refine (callsIn_wide.2 HCO.out).mono ?_
  rintro e W0 ⟨rfl, b1, b2, b3, hg, hsz⟩
  clear HCO
  obtain ⟨k1, k2, k3, k4, k5, k6⟩ := HBS.out
  have bx := k1.grown hg (by simp)
  have bq := k2.grown hg (by simp)
  have bo := k3.grown hg (by simp)
  have bs := k4.kept hg (by simp)
  have hB0 : Below w.heap.size w W0 := below_grown (k5.trans hg)
  rw [k6] at b1 b2 b3 hsz ⊢
  clear k1 k2 k3 k4 k5 k6 hg HBS
  dsimp only
  gi_wp2
  refine wpIn_rangeFunc_goes rfl h1 (gf := 75) (lb := #[.pointer (some ⟨w.heap.size + 1 + 1 + 1 + 1, 0, none⟩), .pointer (some ⟨w.heap.size + 1 + 1 + 1 + 1 + 1 + 1, 0, none⟩)]) rfl trivial (enters_of Tryd.func75 (by kernel_rfl) rfl)
    (columns_goes (n0 - 1) (by omega) _ _ _ _ f X w W0 hB0 b1 b2 b3 HF.out hl1 hl2) Kp3.trans (Kp3.b (by omega) (by omega) (by omega) (by omega)) (Below.refl _ _) (fun _ => rfl)
    (fun pre W => Bk W w.heap.size 22 #[.int .u64 x] ∧ Bk W (w.heap.size + 1) 22 #[.int .u64 q] ∧ Bk W (w.heap.size + 1 + 1) 22 (nums (outArr q x n (pre.map fun e : Colx => (e.j, e.c)))).toArray ∧ Boxed W (w.heap.size + 1 + 1 + 1) 25 (.slice (some ⟨w.heap.size + 1 + 1, 0, none⟩) n n) ∧ Below w.heap.size w W ∧ W0.heap.size ≤ W.heap.size)
    (fun pre X' Y row hs hg hrow => by
      obtain ⟨s1, s2, s3, s4, s5, s6⟩ := hs
      have hr' := fun r e => (hrow r e).2
      have l3 := s3.lt
      have n3 : some (w.heap.size + 1 + 1) ≠ row := fun e => by
        obtain ⟨o, ho, hc⟩ := hr' _ e.symm
        rw [show X'.heap[w.heap.size + 1 + 1]? = _ from s3] at ho
        cases ho
        cases hc
      exact ⟨s1.grown hg (cell_ne (s1.cell 0) hr'), s2.grown hg (cell_ne (s2.cell 0) hr'), s3.grown hg n3, s4.kept hg (boxNe s4 hr'), s5.grown hg s5.size (fun k e => by have := (hrow k e).1; omega), Nat.le_trans s6 hg.size⟩)
    ⟨bx, bq, by simpa [outArr] using bo, bs, hB0, Nat.le_refl _⟩
    (fun e a' W => (Sl encU (fun g => W0.heap.size ≤ g) W e.v e.c ∧ e.j < n) ∧ a' = { tmps := #[.slice A1 f.length c1, .int .u64 x, .int .u64 q, undef, .pointer (some ⟨w.heap.size, 0, none⟩), .pointer (some ⟨w.heap.size + 1, 0, none⟩), .slice none 0 0, .pointer (some ⟨w.heap.size + 1 + 1 + 1, 0, none⟩), .int .i64 e.j, e.v, .slice A1 f.length c1, .int .i64 n, .slice (some ⟨w.heap.size + 1 + 1, 0, none⟩) n n, .slice A1 f.length c1, .func (.func 75) #[] #[.pointer (some ⟨w.heap.size + 1 + 1 + 1 + 1, 0, none⟩), .pointer (some ⟨w.heap.size + 1 + 1 + 1 + 1 + 1 + 1, 0, none⟩)], .int .i64 e.j, e.v, undef, undef, undef, undef, undef, undef, undef, undef], defers := [] })
    (fun e a' _ X' Y row hs hg hrow => ⟨⟨hs.1.1.keepc hg (fun r e => (hrow r e).2), hs.1.2⟩, hs.2⟩)
    ?assign ?body ?done
  case assign =>
    rintro l pre e W K hi hfx hK
    have hfx2 : e.j < n := by have := hfx.2; rwa [← HN.out] at this
    have hfx1 := hfx.1
    have hk2 := hK _ W (KeepsFrom.refl _ _) (Kp3.refl _ _ _ _ _) hi ⟨⟨hfx1, hfx2⟩, rfl⟩
    clear hK hi hfx
    gi_wp2
    exact hk2
  case body =>
    rintro l pre ⟨j, vc, lc⟩ a' W hl ⟨hbx, hbq, hbo, hbs, hbl, hws⟩ ⟨⟨hsl, hjn⟩, rfl⟩ hlt
    have hsl : Sl encU (fun g => W0.heap.size ≤ g) W vc lc := hsl
    have hjn : j < n := hjn
    obtain ⟨Ac, cc, rfl, _, _⟩ := hsl.form
    have hj0 : (0 : Int) ≤ (j : Int) := by omega
    have hjI : (j : Int) < (n : Int) := by omega
    have HBX : Hid (Boxed W.drew (w.heap.size + 1 + 1 + 1) 25 (.slice (some ⟨w.heap.size + 1 + 1, 0, none⟩) n n)) := Lib.hid hbs
    have HBx : Hid (Bk W.drew w.heap.size 22 #[.int .u64 x]) := Lib.hid (hbx.drewN 1)
    have HBq : Hid (Bk W.drew (w.heap.size + 1) 22 #[.int .u64 q]) := Lib.hid (hbq.drewN 1)
    have HBO : Hid (Bk W.drew (w.heap.size + 1 + 1) 22 (nums (outArr q x n (pre.map fun e : Colx => (e.j, e.c)))).toArray) := Lib.hid (hbo.drewN 1)
    have HEV : Hid (∀ w', W.drew.grownBy w' none → Calls Tryd.prog 46 #[.slice Ac lc.length cc, .int .u64 x, .int .u64 q] w' fun e w'' => e = .returned (.int .u64 (evalI q lc x)) ∧ w'.grownBy w'' none) := Lib.hid (fun w' hw => eval_any _ lc x q _ w' (hsl.kept ((grown_drewN' W 1).trans hw)) HX.out)
    have HBL := Lib.hid hbl
    have HLL : Hid ((outArr q x n (pre.map fun e : Colx => (e.j, e.c))).length = n) := Lib.hid (outArr_length _ _ _ _)
    have HSN : Hid (outArr q x n ((pre ++ [(⟨j, .slice Ac lc.length cc, lc⟩ : Colx)]).map fun e : Colx => (e.j, e.c)) = (outArr q x n (pre.map fun e : Colx => (e.j, e.c))).set j (evalI q lc x)) := Lib.hid (by rw [List.map_append]; exact outArr_snoc _ _ _ _ _)
    have HWL : Hid (w.heap.size + 1 + 1 + 1 + 1 + 1 + 1 + 1 = W0.heap.size ∧ W0.heap.size ≤ W.heap.size) := Lib.hid ⟨by rw [hsz], hws⟩
    have HWW : Hid (w.heap.size + 1 + 1 + 1 + 1 + 1 + 1 < W.heap.size) := Lib.hid (by omega)
    obtain ⟨H0, hH0⟩ : ∃ H0, H0 = outArr q x n (pre.map fun e : Colx => (e.j, e.c)) := ⟨_, rfl⟩
    rw [← hH0] at HBO HLL HSN
    obtain ⟨ev, hev⟩ : ∃ ev, ev = evalI q lc x := ⟨_, rfl⟩
    have HEVE := Lib.hid hev
    clear hbx hbq hbo hbs hbl hsl hlt hH0 hev
    dsimp only
    gi_wp2
    refine wpIn_round_any (l0 := l) (R := fun _ W5 => KeepsFrom W0.heap.size W W5 ∧ Kp3 w.heap.size (w.heap.size + 1 + 1 + 1 + 1) (w.heap.size + 1 + 1 + 1 + 1 + 1) (w.heap.size + 1 + 1 + 1 + 1 + 1 + 1) W W5 ∧ Bk W5 w.heap.size 22 #[.int .u64 x] ∧ Bk W5 (w.heap.size + 1) 22 #[.int .u64 q] ∧ Bk W5 (w.heap.size + 1 + 1) 22 (nums (outArr q x n ((pre ++ [(⟨j, .slice Ac lc.length cc, lc⟩ : Colx)]).map fun e : Colx => (e.j, e.c)))).toArray ∧ Boxed W5 (w.heap.size + 1 + 1 + 1) 25 (.slice (some ⟨w.heap.size + 1 + 1, 0, none⟩) n n) ∧ Below w.heap.size w W5 ∧ W0.heap.size ≤ W5.heap.size) (by kernel_rfl) (by kernel_rfl) (fun a w h => ⟨rfl, h⟩) ?_
    refine wpAny_monoR 7 (by kernel_rfl) ?_
    -- op 0 (slot 17): load
    refine MonoR.step (Pv.eq (.slice (some ⟨w.heap.size + 1 + 1, 0, none⟩) n n)) [] (by kernel_rfl) (fun w' hw' => ?_) ?_
    · refine ask_do rfl fun K hK => ?_
      have hb7 := (HBX.out.kept hw' (by simp)).cell
      have hb4 := (HBx.out.grown hw' (by simp)).cell 0
      have hb5 := (HBq.out.grown hw' (by simp)).cell 0
      simp at hb4 hb5
      go_simp
      exact hK _ _ rfl rfl (World.grownBy.refl _ none)
    -- op 1 (slot 18): move
    refine MonoR.step (Pv.eq (.int .i64 (j : Int))) [] (by kernel_rfl) (fun w' hw' => ?_) ?_
    · refine ask_do rfl fun K hK => ?_
      go_simp
      exact hK _ _ rfl rfl (World.grownBy.refl _ none)
    -- op 2 (slot 19): move
    refine MonoR.step (Pv.eq (.slice Ac lc.length cc)) [] (by kernel_rfl) (fun w' hw' => ?_) ?_
    · refine ask_do rfl fun K hK => ?_
      go_simp
      exact hK _ _ rfl rfl (World.grownBy.refl _ none)
    -- op 3 (slot 20): load
    refine MonoR.step (Pv.eq (.int .u64 x)) [] (by kernel_rfl) (fun w' hw' => ?_) ?_
    · refine ask_do rfl fun K hK => ?_
      have hb7 := (HBX.out.kept hw' (by simp)).cell
      have hb4 := (HBx.out.grown hw' (by simp)).cell 0
      have hb5 := (HBq.out.grown hw' (by simp)).cell 0
      simp at hb4 hb5
      go_simp
      exact hK _ _ rfl rfl (World.grownBy.refl _ none)
    -- op 4 (slot 21): load
    refine MonoR.step (Pv.eq (.int .u64 q)) [] (by kernel_rfl) (fun w' hw' => ?_) ?_
    · refine ask_do rfl fun K hK => ?_
      have hb7 := (HBX.out.kept hw' (by simp)).cell
      have hb4 := (HBx.out.grown hw' (by simp)).cell 0
      have hb5 := (HBq.out.grown hw' (by simp)).cell 0
      simp at hb4 hb5
      go_simp
      exact hK _ _ rfl rfl (World.grownBy.refl _ none)
    -- op 5 (slot 22): call
    refine MonoR.step (Pv.eq (.int .u64 (evalI q lc x))) [(2, 19), (3, 20), (4, 21)] (by kernel_rfl) (fun w' hw' => ?_) ?_
    · rintro _ rfl
      rintro _ rfl
      rintro _ rfl
      refine ask_do rfl fun K hK => ?_
      go_simp
      refine (HEV.out w' hw').mono ?_
      rintro e w3 ⟨rfl, hg⟩
      exact hK _ _ rfl rfl hg
    -- op 6 (slot 23): indexAddr
    refine MonoR.step (Pv.eq (.pointer (some ⟨w.heap.size + 1 + 1, j, none⟩))) [(0, 17), (1, 18)] (by kernel_rfl) (fun w' hw' => ?_) ?_
    · rintro _ rfl
      rintro _ rfl
      refine ask_do rfl fun K hK => ?_
      go_simp
      exact hK _ _ rfl rfl (World.grownBy.refl _ none)
    intro w3 hw3
    iterate 5 (intro _ _)
    rintro _ rfl
    rintro _ rfl
    have hbo3 := HBO.out.grown hw3 (by simp)
    have hcl : w3.cell? ⟨w.heap.size + 1 + 1, j, none⟩ = some (.int .u64 (H0[j]'(by rw [HLL.out]; exact hjn))) := by rw [hbo3.cell j]; simp [nums, HLL.out, hjn]
    have hfr := hbo3.free j
    have hgd : W.grownBy w3 none := (grown_drewN' W 1).trans hw3
    have hbo5 := (hbo3.set j (.int .u64 ev)).of_eq (cs' := (nums (H0.set j ev)).toArray) (by simp [nums, List.map_set])
    have hbx5 := (HBx.out.grown hw3 (by simp)).far (p := ⟨w.heap.size + 1 + 1, j, none⟩) (by simp; omega) (.int .u64 ev)
    have hbq5 := (HBq.out.grown hw3 (by simp)).far (p := ⟨w.heap.size + 1 + 1, j, none⟩) (by simp) (.int .u64 ev)
    have hbs5 := Bk.far (HBX.out.kept hw3 (by simp)) (p := ⟨w.heap.size + 1 + 1, j, none⟩) (by simp) (.int .u64 ev)
    have hkf : KeepsFrom W0.heap.size W (w3.setCell ⟨w.heap.size + 1 + 1, j, none⟩ (.int .u64 ev)) := ((keeps_none hgd).trans (KeepsOthers.setCell _ _ _)).from _
    have hWS : w.heap.size + 1 + 1 + 1 + 1 + 1 + 1 < W.heap.size := HWW.out
    have hkp : Kp3 w.heap.size (w.heap.size + 1 + 1 + 1 + 1) (w.heap.size + 1 + 1 + 1 + 1 + 1) (w.heap.size + 1 + 1 + 1 + 1 + 1 + 1) W (w3.setCell ⟨w.heap.size + 1 + 1, j, none⟩ (.int .u64 ev)) :=
      (Kp3.grown hgd (by omega) (by omega) (by omega) hWS).trans ⟨(Below.refl _ w3).setCell (p := ⟨w.heap.size + 1 + 1, j, none⟩) (by simp; omega) _, Below.heap_setCell w3 _ _ _ (by simp; omega), Below.heap_setCell w3 _ _ _ (by simp; omega), Below.heap_setCell w3 _ _ _ (by simp; omega)⟩
    have hbl5 : Below w.heap.size w (w3.setCell ⟨w.heap.size + 1 + 1, j, none⟩ (.int .u64 ev)) := (HBL.out.trans ((below_grown hgd).mono (by omega))).setCell (p := ⟨w.heap.size + 1 + 1, j, none⟩) (by simp; omega) _
    rw [HSN.out, ← HEVE.out]
    have FIN := Lib.hid (And.intro hkf (And.intro hkp (And.intro hbx5 (And.intro hbq5 (And.intro hbo5 (And.intro hbs5 (And.intro hbl5 (show W0.heap.size ≤ (w3.setCell ⟨w.heap.size + 1 + 1, j, none⟩ (.int .u64 ev)).heap.size by have := hgd.size; have := HWL.out.2; simp; omega))))))))
    clear hbo3 hgd hbo5 hbx5 hbq5 hbs5 hkf hkp hbl5 hw3
    rw [HEVE.out] at FIN
    rw [HEVE.out]
    refine wpList_plain rfl fun K hK => ?_
    go_simp
    refine hK _ _ (wpList_nil ?_)
    exact ⟨rfl, FIN.out⟩
  case done =>
    rintro D zs W hD hzs ⟨hbx, hbq, hbo, hbs, hbl, _⟩ hK
    have hcs := hbs.cell
    rw [hzs, HN.out, outArr_all] at hbo
    have hlen : (rowI q f x).length = n := by simp [rowI, HN.out]
    have HR : Hid (Sl encU (fun g => w.heap.size ≤ g) (W.putObj D (.deferred none)) (.slice (some ⟨w.heap.size + 1 + 1, 0, none⟩) n n) (rowI q f x) ∧ w.grownBy (W.putObj D (.deferred none)) none) := Lib.hid ⟨by
      have hb2 := hbo.grown (grownBy_putObj' W D (.deferred none)) (fun e => by injection e with e; omega)
      have := Sl.block (E := encU) (X := fun g => w.heap.size ≤ g) (xs := rowI q f x) (c := n) hb2 (by omega) ((nums (rowI q f x)).map fun v => [v]) (by simp [nums]) (fun i hi hi' => ⟨by simp [nums], by simp only [rowI, List.getElem_map]; exact evalI_U64 _ _ _⟩) (by rw [flatten_singles]) (by rw [hlen]; exact Nat.le_refl _) (by omega)
      rwa [hlen] at this, grown_of_below (hbl.trans (belowK_b (w := w) (Nat.le_refl _) W D _ _ (by omega) hK rfl rfl))⟩
    clear hbo hbx hbq hbs hbl
    gi_wp2
    refine ⟨by simp, .inl ⟨_, _, rfl, run_takeDeferred hK, ?_⟩⟩
    refine ⟨_, results_tmp rfl _ _ _, .slice (some ⟨w.heap.size + 1 + 1, 0, none⟩) n n, rfl, HR.out.1, HR.out.2⟩
end Go.Proofs.YtmbbahlenanpfaaDoor

namespace Go.Proofs.YtmbbahlenanpfaaDoor
open Go Go.RowKit

def colArr (q y : Int) (f : List (List Int)) (j : Nat) : List Int := (f.take j).map (fun c => evalI q c y) ++ List.replicate (f.length - j) 0
theorem colArr_length (q y : Int) (f : List (List Int)) (j : Nat) (h : j ≤ f.length) : (colArr q y f j).length = f.length := by simp [colArr]; omega
theorem colArr_set (q y : Int) (f : List (List Int)) (j : Nat) (h : j < f.length) : (colArr q y f j).set j (evalI q f[j] y) = colArr q y f (j + 1) := by
  refine List.ext_getElem (by rw [List.length_set, colArr_length _ _ _ _ (by omega), colArr_length _ _ _ _ (by omega)]) fun i h1 h2 => ?_
  rw [colArr_length _ _ _ _ (by omega)] at h2
  rw [List.getElem_set]
  split
  · rename_i e
    subst e
    simp only [colArr]
    rw [List.getElem_append_left (by simp; omega)]
    simp
  · rename_i e
    simp only [colArr]
    by_cases hi : i < j
    · rw [List.getElem_append_left (by simp; omega), List.getElem_append_left (by simp; omega)]
      simp
    · rw [List.getElem_append_right (by simp; omega), List.getElem_append_right (by simp; omega)]
      simp
set_option maxRecDepth 100000 in
set_option maxHeartbeats 1000000 in
theorem col_any (v : Value) (f : List (List Int)) (y q : Int) (X : Nat → Prop) (w : World) (hf : Sl (encS encU) X w v f) (hy : U64 y) (hl1 : f.length ≤ 100000) :
    Calls Tryd.prog 23 #[v, .int .u64 y, .int .u64 q] w (Gives encU (fun g => w.heap.size ≤ g) w (colV q f y)) := by
  have HF := Lib.hid hf
  have HY := Lib.hid hy
  obtain ⟨A, c, rfl, hc1, hc2⟩ := hf.form
  clear hf hy
  have hmk := run_make_row' (P := Tryd.prog) 25 22 (.int .u64 0) 8 Tryd.underlying25 info_u64 rfl .i64 .i64 f.length (by omega) (by omega)
  have HST : Hid (Bk (w.alloc (.cells (madeCells #[.int .u64 0] f.length) 22)) w.heap.size 22 (nums (colArr q y f 0)).toArray ∧ w.grownBy (w.alloc (.cells (madeCells #[.int .u64 0] f.length) 22)) none) := Lib.hid ⟨(Bk.new w 22 (madeCells #[.int .u64 0] f.length)).of_eq (Array.toList_inj.1 (by rw [toList_madeCells_one]; simp [nums, colArr])), World.grownBy_alloc w _ none⟩
  go_enter Tryd.func23, Tryd.ntmps23
  go_wp2_with fail
  go_loopg [15] f.length (fun g s15 wx => ∃ j : Nat, j + g = f.length ∧ s15 = .int .i64 j ∧ Hid (Bk wx w.heap.size 22 (nums (colArr q y f j)).toArray ∧ w.grownBy wx none))
  case atStart => exact ⟨0, by omega, rfl, HST⟩
  case round =>
    obtain ⟨j, hj, rfl, HX⟩ := hrel
    cases gk with
    | zero =>
      obtain rfl : j = f.length := by omega
      have HR : Hid (Sl encU (fun g => w.heap.size ≤ g) wr (.slice (some ⟨w.heap.size, 0, none⟩) f.length f.length) (colV q f y) ∧ w.grownBy wr none) := Lib.hid ⟨by
        have h1 := HX.out.1
        rw [show colArr q y f f.length = colV q f y by simp [colArr, colV]] at h1
        have := Sl.block (E := encU) (X := fun g => w.heap.size ≤ g) (xs := colV q f y) (c := f.length) h1 (Nat.le_refl _) ((nums (colV q f y)).map fun v => [v]) (by simp [nums]) (fun i hi hi' => ⟨by simp [nums], by simp only [colV, List.getElem_map]; exact evalI_U64 _ _ _⟩) (by rw [flatten_singles]) (by simp [colV]) (by omega)
        rwa [show (colV q f y).length = f.length by simp [colV]] at this, HX.out.2⟩
      clear HX HST hmk
      go_wp2
      go_ret
      exact ⟨_, rfl, HR.out.1, HR.out.2⟩
    | succ m =>
      have hjn : (j : Int) < (f.length : Int) := by omega
      have hjN : j < f.length := by omega
      have hj0 : (0 : Int) ≤ (j : Int) := by omega
      obtain ⟨g, o, c', u, e, _, _, hcu, hsu⟩ := (HF.out.kept HX.out.2).atS hjN
      injection e with e1 e2 e3
      subst e1 e3
      obtain ⟨A1, c1, e1, _, _⟩ := hsu.form
      subst e1
      have HEV := Lib.hid (eval_any _ f[j] y q _ wr hsu HY.out)
      have HSN := Lib.hid (colArr_set q y f j hjN)
      have HLL := Lib.hid (colArr_length q y f j (by omega))
      have HB := Lib.hid HX.out.1
      have HG := Lib.hid HX.out.2
      clear hsu e2 HX HST hmk
      generalize colArr q y f j = H0 at *
      generalize f[j] = L at *
      generalize L.length = n1 at *
      go_wp2_with fail
      refine HEV.out.mono ?_
      rintro e w1 ⟨rfl, hg1⟩
      have hb1 := HB.out.grown hg1 (by simp)
      have hcl : w1.cell? ⟨w.heap.size, j, none⟩ = some (.int .u64 (H0[j]'(by rw [HLL.out]; exact hjN))) := by rw [hb1.cell j]; simp [nums, HLL.out, hjN]
      have hfr := hb1.free j
      have HFIN : Hid (Bk (w1.setCell ⟨w.heap.size, j, none⟩ (.int .u64 (evalI q L y))) w.heap.size 22 (nums (colArr q y f (j + 1))).toArray ∧ w.grownBy (w1.setCell ⟨w.heap.size, j, none⟩ (.int .u64 (evalI q L y))) none) := Lib.hid ⟨(hb1.set j _).of_eq (by rw [← HSN.out]; simp [nums, List.map_set]), grown_up (HG.out.trans hg1) (grownBy_set (World.grownBy.refl _ (some w.heap.size)) j _) (fun g e => by injection e with e; omega)⟩
      clear hg1 hb1
      go_wp2_with fail
      go_roundg m
      case measure => omega
      case rel => exact ⟨j + 1, by omega, by go_num, HFIN⟩
end Go.Proofs.YtmbbahlenanpfaaDoor

namespace Go.Proofs.YtmbbahlenanpfaaDoor
open Go Go.RowKit

/-- A list of a matrix that is none. -/
def sqBad (p : Par) (l : List (List Int)) : Bool := !allB p l (wrap64 (p.T + 1)) (wrap64 (p.T + 1))
set_option maxHeartbeats 400000 in
theorem sqOne_any (p : Par) (B : Nat) (v : Value) (l : List (List Int)) (X : Nat → Prop) (w : World) (hp : p.ok) (hb : Bk w B 24 p.cells) (h : Sl (encS encU) X w v l) :
    Calls Tryd.prog 57 #[v, .pointer (some ⟨B, 0, none⟩)] w fun e w' => e = .returned (.bool (sqBad p l)) ∧ w.grownBy w' none := by
  have HC := Lib.hid (fun w' (hw : w.grownBy w' none) => all_any p v l (wrap64 (p.T + 1)) (wrap64 (p.T + 1)) X w' hp (h.kept hw))
  have HG : Hid (w.grownBy w none) := Lib.hid (World.grownBy.refl w none)
  have HGd : Hid (w.grownBy w.drew none) := Lib.hid (grown_drewN' w 1)
  have hc := hb.prule
  obtain ⟨A, c, rfl, _, _⟩ := h.form
  clear hp hb h
  go_enter Tryd.func57, Tryd.ntmps57
  go_wp2_with fail
  refine (HC.out _ (by first | exact HG.out | exact HGd.out)).mono ?_
  rintro e w1 ⟨rfl, hg⟩
  have HG1 := Lib.hid hg
  clear hg
  go_wp2
  go_ret
  exact ⟨rfl, by first | exact HG1.out | exact HGd.out.trans HG1.out⟩
set_option maxHeartbeats 400000 in
theorem indexSq (p : Par) (B : Nat) (v : Value) (l : List (List (List Int))) (X : Nat → Prop) (w : World) (hp : p.ok) (hb : Bk w B 24 p.cells) (h : Sl (encS (encS encU)) X w v l) :
    Calls Tryd.prog 76 #[v, .func (.func 57) #[] #[.pointer (some ⟨B, 0, none⟩)]] w (FoundB (l.any fun x => sqBad p x) w) := by
  have Hhp := Lib.hid hp
  have Hhb := Lib.hid hb
  have H := Lib.hid h
  have hl := h.bound
  obtain ⟨A, c, rfl, _, _⟩ := h.form
  clear h hp hb
  go_enter Tryd.func76, Tryd.ntmps76
  go_wp2_with fail
  go_loopg [8] l.length (fun n s8 wx => ∃ j : Nat, j + n = l.length ∧ s8 = .int .i64 j ∧ Hid (w.grownBy wx none ∧ ∀ i (h : i < l.length), i < j → sqBad p l[i] = false))
  case atStart => exact ⟨0, by omega, rfl, Lib.hid ⟨World.grownBy.refl w none, fun i hi h => absurd h (by omega)⟩⟩
  case round =>
    obtain ⟨j, hj, rfl, HX⟩ := hrel
    cases gk with
    | zero =>
      obtain rfl : j = l.length := by omega
      have HE : Hid (FoundB (l.any fun x => sqBad p x) w (.returned (.int .i64 (-1))) wr) := Lib.hid ⟨-1, rfl, by
        have : (l.any fun x => sqBad p x) = false := by
          rw [List.any_eq_false]
          intro b hb
          obtain ⟨i, hi, rfl⟩ := List.getElem_of_mem hb
          simp [HX.out.2 i hi hi]
        rw [this]
        rfl, ⟨by decide, by decide⟩, HX.out.1⟩
      clear HX
      go_wp2
      go_ret
      exact HE.out
    | succ k =>
      have hjn : (j : Int) < (l.length : Int) := by omega
      have hjN : j < l.length := by omega
      obtain ⟨g, o, c', u, e, _, _, hcu, hu⟩ := (H.out.kept HX.out.1).atS hjN
      injection e with e1 e2 e3
      subst e1 e3
      have HC := Lib.hid (sqOne_any p B u l[j] X wr (Hhp.out) (Hhb.out.grown HX.out.1 (by simp)) hu)
      have HV : Hid (sqBad p l[j] = false ∨ sqBad p l[j] = true) := Lib.hid (by cases sqBad p l[j] <;> simp)
      have HR : Hid (sqBad p l[j] = false → ∀ i (h : i < l.length), i < j + 1 → sqBad p l[i] = false) := Lib.hid (fun h i hi hl => by
        rcases Nat.lt_or_ge i j with h1 | h1
        · exact HX.out.2 i hi h1
        · obtain rfl : i = j := by omega
          exact h)
      have HN : Hid (sqBad p l[j] = true → (l.any fun x => sqBad p x) = true) := Lib.hid (fun h => List.any_eq_true.2 ⟨_, List.getElem_mem hjN, by simp [h]⟩)
      obtain ⟨A7, c7, e7, _, _⟩ := hu.form
      generalize l[j].length = n7 at e7
      subst e7
      have HG := Lib.hid HX.out.1
      clear HX hu e2
      generalize sqBad p l[j] = b at *
      generalize l[j] = x at *
      rcases HV.out with rfl | rfl
      · go_wp2_with fail
        refine HC.out.mono ?_
        rintro e w1 ⟨rfl, hg⟩
        have HG1 := Lib.hid (HG.out.trans hg)
        clear hg
        go_wp2
        go_roundg k
        case measure => omega
        case rel => exact ⟨j + 1, by omega, by go_num, Lib.hid ⟨HG1.out, HR.out (by simp)⟩⟩
      · have HE : Hid (∀ w1, w.grownBy w1 none → FoundB (l.any fun x => sqBad p x) w (.returned (.int .i64 j)) w1) := Lib.hid (fun w1 hg => ⟨j, rfl, by rw [HN.out rfl]; simp, ⟨by omega, by omega⟩, hg⟩)
        go_wp2_with fail
        refine HC.out.mono ?_
        rintro e w1 ⟨rfl, hg⟩
        have HG1 := Lib.hid (HG.out.trans hg)
        clear hg
        go_wp2
        go_ret
        exact HE.out _ HG1.out
set_option maxHeartbeats 400000 in
theorem containsSq (p : Par) (B : Nat) (v : Value) (l : List (List (List Int))) (X : Nat → Prop) (w : World) (hp : p.ok) (hb : Bk w B 24 p.cells) (h : Sl (encS (encS encU)) X w v l) :
    Calls Tryd.prog 56 #[v, .func (.func 57) #[] #[.pointer (some ⟨B, 0, none⟩)]] w fun e w' => e = .returned (.bool (l.any fun x => sqBad p x)) ∧ w.grownBy w' none := by
  have HC := Lib.hid (indexSq p B v l X w hp hb h)
  obtain ⟨A, c, rfl, _, _⟩ := h.form
  clear h hp hb
  go_enter Tryd.func56, Tryd.ntmps56
  go_wp2_with fail
  refine HC.out.mono ?_
  rintro e w1 ⟨r, rfl, hr, _, hg⟩
  have HG := Lib.hid hg
  have HR := Lib.hid hr
  clear hg hr
  go_wp2
  go_ret
  exact ⟨ret_bool HR.out, HG.out⟩
/-- Square: as many lists as there are secrets, each a square of numbers of the group. -/
def squareB (p : Par) (m : List (List (List Int))) : Bool := decide ((m.length : Int) = secretsI p) && !m.any fun x => sqBad p x
set_option maxHeartbeats 400000 in
theorem square_any (p : Par) (v : Value) (m : List (List (List Int))) (X : Nat → Prop) (w : World) (hp : p.ok) (h : Sl (encS (encS encU)) X w v m) :
    Calls Tryd.prog 24 #[p.v, v] w fun e w' => e = .returned (.bool (squareB p m)) ∧ w.grownBy w' none := by
  have HP := Lib.hid hp
  have H := Lib.hid h
  have HB : Hid (Bk (w.alloc (.cells p.cells 24)) w.heap.size 24 p.cells) := Lib.hid (Bk.new w _ _)
  have HG : Hid (w.grownBy (w.alloc (.cells p.cells 24)) none) := Lib.hid (World.grownBy_alloc w _ none)
  have HS := Lib.hid (secrets_any p)
  obtain ⟨A, c, rfl, _, _⟩ := h.form
  clear hp h
  by_cases hne : (m.length : Int) = secretsI p
  · have HR : Hid (squareB p m = !m.any fun x => sqBad p x) := Lib.hid (by simp [squareB, hne])
    have hd : ((m.length : Int) == secretsI p) = true := by simp [hne]
    go_enter Tryd.func24, Tryd.ntmps24
    go_wp2_with fail
    refine (HS.out _).mono ?_
    rintro e w1 ⟨rfl, hg⟩
    have HG1 := hidTrans hg HG
    have HB1 := bkGrown hg HB
    clear hg
    go_wp2_with fail
    refine (containsSq p w.heap.size _ m X w1 HP.out HB1.out (H.out.kept HG1.out)).mono ?_
    rintro e w2 ⟨rfl, hg⟩
    have HG2 := hidTrans hg HG1
    clear hg
    go_wp2
    go_ret
    exact ⟨ret_bool HR.out.symm, HG2.out⟩
  · have HR : Hid (squareB p m = false) := Lib.hid (by simp [squareB, hne])
    have hd : ((m.length : Int) == secretsI p) = false := by simp [hne]
    go_enter Tryd.func24, Tryd.ntmps24
    go_wp2_with fail
    refine (HS.out _).mono ?_
    rintro e w1 ⟨rfl, hg⟩
    have HG1 := hidTrans hg HG
    clear hg
    go_wp2
    go_ret
    exact ⟨ret_bool HR.out.symm, HG1.out⟩
end Go.Proofs.YtmbbahlenanpfaaDoor

namespace Go.Proofs.YtmbbahlenanpfaaDoor
open Go Go.RowKit

/-- The value of a polynomial, over the integers. -/
def polyZ (x : Int) : List Int → Int
  | [] => 0
  | y :: l => y + x * polyZ x l
theorem evalI_cons (q : Int) (y : Int) (c : List Int) (x : Int) : evalI q (y :: c) x = addI (mulI (evalI q c x) x q) y q := by simp [evalI, evalGo]
theorem evalI_bd {q : Int} (hq : mayB q = true) (c : List Int) (x : Int) : 0 ≤ evalI q c x ∧ evalI q c x < q := by
  have h := (may_bds hq).1
  cases c with
  | nil => exact ⟨Int.le_refl _, h⟩
  | cons y c =>
    rw [evalI_cons, addI_yes _ _ _ hq]
    exact ⟨Int.emod_nonneg _ (by omega), Int.emod_lt_of_pos _ h⟩
theorem evalI_cg {q : Int} (hq : mayB q = true) (x : Int) : ∀ (c : List Int), Cg q (evalI q c x) (polyZ x c)
  | [] => Cg.refl _ _
  | y :: c => by
    rw [evalI_cons, addI_yes _ _ _ hq, mulI_yes _ _ _ hq]
    refine (Cg.mod _ _).trans (((Cg.mod _ _).trans ((evalI_cg hq x c).mul_right x)).add (Cg.refl _ y) |>.trans (Cg.of_eq ?_))
    show polyZ x c * x + y = y + x * polyZ x c
    rw [Int.mul_comm, Int.add_comm]
theorem valGo_cg {q x : Int} (hq : mayB q = true) : ∀ (l : List (Int × Int)) (v : Int × Int) (e : Int), Cg q (valGo q x l v e).1 (v.1 + e * polyZ x (l.map Prod.fst)) ∧ Cg q (valGo q x l v e).2 (v.2 + e * polyZ x (l.map Prod.snd))
  | [], v, e => ⟨Cg.of_eq (by simp [valGo, polyZ]), Cg.of_eq (by simp [valGo, polyZ])⟩
  | y :: l, v, e => by
    obtain ⟨h1, h2⟩ := valGo_cg hq l (addI v.1 (mulI y.1 e q) q, addI v.2 (mulI y.2 e q) q) (mulI e x q)
    have key : ∀ (a b s : Int), Cg q (addI a (mulI b e q) q + mulI e x q * s) (a + e * (b + x * s)) := fun a b s => by
      rw [addI_yes _ _ _ hq, mulI_yes _ _ _ hq, mulI_yes _ _ _ hq]
      refine (((Cg.mod _ _).trans ((Cg.refl _ a).add (Cg.mod _ _))).add ((Cg.mod _ _).mul_right s)).trans (Cg.of_eq ?_)
      rw [Int.mul_add, Int.mul_comm b e, Int.mul_assoc]
      omega
    exact ⟨h1.trans (key _ _ _), h2.trans (key _ _ _)⟩
theorem valGo_bd {q x : Int} (hq : mayB q = true) : ∀ (l : List (Int × Int)) (v : Int × Int) (e : Int), 0 ≤ v.1 ∧ v.1 < q → 0 ≤ v.2 ∧ v.2 < q → (0 ≤ (valGo q x l v e).1 ∧ (valGo q x l v e).1 < q) ∧ 0 ≤ (valGo q x l v e).2 ∧ (valGo q x l v e).2 < q
  | [], v, e, h1, h2 => ⟨h1, h2⟩
  | y :: l, v, e, _, _ => by
    have h := (may_bds hq).1
    have k : ∀ a b : Int, 0 ≤ addI a b q ∧ addI a b q < q := fun a b => by
      rw [addI_yes _ _ _ hq]
      exact ⟨Int.emod_nonneg _ (by omega), Int.emod_lt_of_pos _ h⟩
    exact valGo_bd hq l _ _ (k _ _) (k _ _)
theorem val_eval {q x : Int} (hq : mayB q = true) (l : List (Int × Int)) : valGo q x l (0, 0) 1 = (evalI q (l.map Prod.fst) x, evalI q (l.map Prod.snd) x) := by
  have h := (may_bds hq).1
  obtain ⟨h1, h2⟩ := valGo_cg (x := x) hq l (0, 0) 1
  obtain ⟨b1, b2⟩ := valGo_bd (x := x) hq l (0, 0) 1 ⟨Int.le_refl _, h⟩ ⟨Int.le_refl _, h⟩
  have e1 := evalI_bd hq (l.map Prod.fst) x
  have e2 := evalI_bd hq (l.map Prod.snd) x
  rw [show (0 : Int) + 1 * polyZ x (l.map Prod.fst) = polyZ x (l.map Prod.fst) by omega] at h1
  rw [show (0 : Int) + 1 * polyZ x (l.map Prod.snd) = polyZ x (l.map Prod.snd) by omega] at h2
  exact Prod.ext ((h1.trans (evalI_cg hq x _).symm).eq b1.1 b1.2 e1.1 e1.2) ((h2.trans (evalI_cg hq x _).symm).eq b2.1 b2.2 e2.1 e2.2)
/-- What At tells of commitments. -/
theorem at_eval {p : Par} (h : Good p) (i : Int) (hi : 0 ≤ i) (l : List (Int × Int)) (hl : ∀ y ∈ l, 0 ≤ y.1 ∧ 0 ≤ y.2) : atI p (l.map (commitI p)) i = commitI p (evalI p.Q (l.map Prod.fst) i, evalI p.Q (l.map Prod.snd) i) := by
  rw [at_commits h i hi l hl, val_eval h.Q]
/-- A list of n lists of n numbers, none below 0. -/
def Sq (n : Nat) (F : List (List Int)) : Prop := F.length = n ∧ ∀ r ∈ F, r.length = n ∧ ∀ y ∈ r, 0 ≤ y
theorem comI_eq (p : Par) (a b : List Int) (n : Nat) (ha : a.length = n) (hb : b.length = n) : comI p (a, b) = (List.range n).map fun j => commitI p (a[j]?.getD 0, b[j]?.getD 0) := by
  simp [comI, zipU, ha, hb, Function.comp_def]
theorem comsI_eq (p : Par) {F B : List (List Int)} {n : Nat} (hF : F.length = n) (hB : B.length = n) : comsI p F B = (List.range n).map fun i => comI p (F[i]?.getD [], B[i]?.getD []) := by
  simp [comsI, zipS, hF, hB, Function.comp_def]
theorem Sq.row {n : Nat} {F : List (List Int)} (h : Sq n F) {i : Nat} (hi : i < n) : ∃ r, F[i]? = some r ∧ r.length = n ∧ ∀ y ∈ r, 0 ≤ y := by
  have hl : i < F.length := by rw [h.1]; exact hi
  exact ⟨F[i], List.getElem?_eq_getElem hl, h.2 _ (List.getElem_mem hl)⟩
theorem Sq.nn {n : Nat} {F : List (List Int)} (h : Sq n F) (i j : Nat) : 0 ≤ (F[i]?.getD [])[j]?.getD 0 := by
  by_cases hi : i < n
  · obtain ⟨r, hr, hl, hy⟩ := h.row hi
    rw [hr]
    by_cases hj : j < r.length
    · simp only [Option.getD_some, List.getElem?_eq_getElem hj]
      exact hy _ (List.getElem_mem hj)
    · simp [List.getElem?_eq_none (show r.length ≤ j by omega)]
  · simp [List.getElem?_eq_none (show F.length ≤ i by rw [h.1]; omega)]
theorem colZ_range {n : Nat} {F : List (List Int)} (h : F.length = n) (j : Nat) : colZ F j = (List.range n).map fun i => (F[i]?.getD [])[j]?.getD 0 := by
  subst h
  refine List.ext_getElem (by simp [colZ]) fun i h1 h2 => ?_
  have hi : i < F.length := by simpa [colZ] using h1
  simp [colZ, List.getElem?_eq_getElem hi]
theorem wide_sq {n : Nat} (hn : 0 < n) {F : List (List Int)} (h : Sq n F) : wideI F = n := wide_eq F 0 (fun r hr => (h.2 r hr).1) (Nat.zero_le _) (by rintro rfl; have := h.1; simp at this; omega)
theorem coms_rect {p : Par} {F B : List (List Int)} {n : Nat} (hF : Sq n F) (hB : Sq n B) : (comsI p F B).length = n ∧ ∀ r ∈ comsI p F B, r.length = n := by
  rw [comsI_eq p hF.1 hB.1]
  refine ⟨by simp, fun r hr => ?_⟩
  obtain ⟨i, hi, rfl⟩ := List.mem_map.1 hr
  obtain ⟨a, ha, hal, _⟩ := hF.row (List.mem_range.1 hi)
  obtain ⟨b, hb, hbl, _⟩ := hB.row (List.mem_range.1 hi)
  rw [ha, hb]
  simp [comI, zipU, hal, hbl]
theorem rows_law {p : Par} (h : Good p) {n : Nat} (hn : 0 < n) {F B : List (List Int)} (hF : Sq n F) (hB : Sq n B) (x : Int) (hx : 0 ≤ x) : shareI p (turnedI p (comsI p F B)) x = comI p (rowI p.Q F x, rowI p.Q B x) := by
  obtain ⟨hl, hr⟩ := coms_rect (p := p) hF hB
  have hw : wideI (comsI p F B) = n := wide_eq _ 0 hr (Nat.zero_le _) (by intro e; rw [e] at hl; simp at hl; omega)
  rw [comI_eq p _ _ n (by simp [rowI, wide_sq hn hF]) (by simp [rowI, wide_sq hn hB])]
  simp only [shareI, turnedI, hw, List.map_map]
  refine List.map_congr_left fun j hj => ?_
  have hjn := List.mem_range.1 hj
  simp only [Function.comp]
  have e1 : colI p (comsI p F B) j = ((List.range n).map fun i => ((F[i]?.getD [])[j]?.getD 0, (B[i]?.getD [])[j]?.getD 0)).map (commitI p) := by
    rw [comsI_eq p hF.1 hB.1]
    simp only [colI, List.map_map]
    refine List.map_congr_left fun i hi => ?_
    obtain ⟨a, ha, hal, _⟩ := hF.row (List.mem_range.1 hi)
    obtain ⟨b, hb, hbl, _⟩ := hB.row (List.mem_range.1 hi)
    simp only [Function.comp, ha, hb, Option.getD_some]
    rw [comI_eq p a b n hal hbl]
    simp [hjn]
  rw [e1, at_eval h x hx _ (fun y hy => by
    obtain ⟨i, _, rfl⟩ := List.mem_map.1 hy
    exact ⟨hF.nn i j, hB.nn i j⟩)]
  simp only [List.map_map, Function.comp_def]
  rw [← colZ_range hF.1 j, ← colZ_range hB.1 j]
  simp [rowI, wide_sq hn hF, wide_sq hn hB, hjn]
theorem cols_law {p : Par} (h : Good p) {n : Nat} {F B : List (List Int)} (hF : Sq n F) (hB : Sq n B) (y : Int) (hy : 0 ≤ y) : shareI p (comsI p F B) y = comI p (colV p.Q F y, colV p.Q B y) := by
  rw [comI_eq p _ _ n (by simp [colV, hF.1]) (by simp [colV, hB.1]), comsI_eq p hF.1 hB.1]
  simp only [shareI, List.map_map]
  refine List.map_congr_left fun i hi => ?_
  obtain ⟨a, ha, hal, han⟩ := hF.row (List.mem_range.1 hi)
  obtain ⟨b, hb, hbl, hbn⟩ := hB.row (List.mem_range.1 hi)
  simp only [Function.comp, ha, hb, Option.getD_some]
  have e1 : comI p (a, b) = ((List.range n).map fun j => (a[j]?.getD 0, b[j]?.getD 0)).map (commitI p) := by
    rw [comI_eq p a b n hal hbl, List.map_map]
    rfl
  rw [e1, at_eval h y hy _ (fun z hz => by
    obtain ⟨j, hj, rfl⟩ := List.mem_map.1 hz
    have h1 := List.mem_range.1 hj
    rw [List.getElem?_eq_getElem (by omega), List.getElem?_eq_getElem (by omega)]
    exact ⟨han _ (List.getElem_mem _), hbn _ (List.getElem_mem _)⟩)]
  simp only [List.map_map, Function.comp_def]
  rw [map_getD hal, map_getD hbl]
  simp [colV, ha, hb]
theorem is_commit {p : Par} (h : Good p) (x : Int × Int) (x1 : 0 ≤ x.1) (x2 : 0 ≤ x.2) : isB p (commitI p x) = true := by
  have hP := may_bds h.P
  have hP2 := h.P2
  have e := commit_eq p x h.P
  have h0 : 0 ≤ commitI p x := by rw [e]; exact Int.emod_nonneg _ (by omega)
  have h1 : commitI p x < p.P := by rw [e]; exact Int.emod_lt_of_pos _ (by omega)
  have hc : Cg p.P (commitI p x ^ p.Q.toNat) 1 := by
    refine ((commit_cg p x h.P).pow _).trans ?_
    rw [Int.mul_pow, ← Int.pow_mul, ← Int.pow_mul, Nat.mul_comm x.1.toNat, Nat.mul_comm x.2.toNat, Int.pow_mul, Int.pow_mul]
    exact ((h.G.pow _).mul (h.H.pow _)).trans (Cg.of_eq (by rw [Int.one_pow, Int.one_pow]; rfl))
  have hp : powI (commitI p x) p.Q p.P = 1 := by
    rw [powI_yes _ _ _ h.P]
    unfold Cg at hc
    rw [hc, Int.emod_eq_of_lt (by decide) (by omega)]
  have hne : commitI p x ≠ 0 := by
    intro e0
    rw [e0] at hc
    have hQ : p.Q.toNat ≠ 0 := by have := h.Q2; omega
    rw [Int.zero_pow hQ] at hc
    unfold Cg at hc
    rw [Int.emod_eq_of_lt (a := 1) (by decide) (by omega)] at hc
    simp at hc
  simp only [isB, hp, Bool.and_eq_true, decide_eq_true_eq, beq_self_eq_true, and_true]
  omega
theorem square_coms {p : Par} (h : Good p) {n S : Nat} (hn : p.T + 1 = (n : Int)) (hS : secretsI p = (S : Int)) {f b : List (List (List Int))} (hf : f.length = S ∧ ∀ F ∈ f, Sq n F) (hb : b.length = S ∧ ∀ B ∈ b, Sq n B) : squareB p (matI p f b) = true := by
  have hw : wrap64 (p.T + 1) = (n : Int) := by have := h.T; unfold wrap64; omega
  have hl : (matI p f b).length = S := by simp [matI, zipS, hf.1, hb.1]
  simp only [squareB, hl, hS, decide_true, Bool.true_and, Bool.not_eq_true']
  rw [List.any_eq_false]
  intro M hM
  simp only [matI, zipS, List.map_map, hf.1, hb.1, Nat.max_self, List.mem_map, List.mem_range, Function.comp] at hM
  obtain ⟨s, hs, rfl⟩ := hM
  have e1 : f[s]? = some f[s] := List.getElem?_eq_getElem (by omega)
  have e2 : b[s]? = some b[s] := List.getElem?_eq_getElem (by omega)
  have hF : Sq n f[s] := hf.2 _ (List.getElem_mem _)
  have hB : Sq n b[s] := hb.2 _ (List.getElem_mem _)
  simp only [e1, e2, Option.getD_some]
  obtain ⟨hl, hr⟩ := coms_rect (p := p) hF hB
  simp only [sqBad, allB, hw, hl, decide_true, Bool.true_and, Bool.not_not]
  simp only [Bool.not_eq_true, List.any_eq_false]
  intro r hr'
  simp only [rowBad, hr r hr', ne_eq, not_true_eq_false, decide_false, Bool.false_or, Bool.not_eq_true, List.any_eq_false, Bool.not_eq_eq_eq_not, Bool.not_true]
  intro c hc
  rw [comsI_eq p hF.1 hB.1] at hr'
  obtain ⟨i, hi, rfl⟩ := List.mem_map.1 hr'
  obtain ⟨a, ha, hal, han⟩ := hF.row (List.mem_range.1 hi)
  obtain ⟨d, hd, hdl, hdn⟩ := hB.row (List.mem_range.1 hi)
  rw [ha, hd] at hc
  simp only [Option.getD_some] at hc
  rw [comI_eq p a d n hal hdl] at hc
  obtain ⟨j, hj, rfl⟩ := List.mem_map.1 hc
  have h1 := List.mem_range.1 hj
  rw [List.getElem?_eq_getElem (by omega), List.getElem?_eq_getElem (by omega)]
  rw [Option.getD_some, Option.getD_some, is_commit h (a[j], d[j]) (han _ (List.getElem_mem _)) (hdn _ (List.getElem_mem _))]
  simp
theorem rows_all {p : Par} (h : Good p) {n S : Nat} (hn : 0 < n) {f b : List (List (List Int))} (hf : f.length = S ∧ ∀ F ∈ f, Sq n F) (hb : b.length = S ∧ ∀ B ∈ b, Sq n B) (x : Int) (hx : 0 ≤ x) :
    rowComsI p (matI p f b) x = comsI p (f.map fun F => rowI p.Q F x) (b.map fun B => rowI p.Q B x) ∧ colComsI p (matI p f b) x = comsI p (f.map fun F => colV p.Q F x) (b.map fun B => colV p.Q B x) := by
  rw [comsI_eq p (n := S) (by simp [hf.1]) (by simp [hb.1]), comsI_eq p (n := S) (by simp [hf.1]) (by simp [hb.1])]
  simp only [rowComsI, colComsI, matI, zipS, List.map_map, hf.1, hb.1, Nat.max_self]
  refine ⟨List.map_congr_left fun s hs => ?_, List.map_congr_left fun s hs => ?_⟩
  all_goals
    have hs := List.mem_range.1 hs
    have e1 : f[s]? = some f[s] := List.getElem?_eq_getElem (by omega)
    have e2 : b[s]? = some b[s] := List.getElem?_eq_getElem (by omega)
    have hF : Sq n f[s] := hf.2 _ (List.getElem_mem _)
    have hB : Sq n b[s] := hb.2 _ (List.getElem_mem _)
    simp only [Function.comp, List.getElem?_map, e1, e2, Option.getD_some, Option.map_some]
  · exact rows_law h hn hF hB x hx
  · exact cols_law h hF hB x hx
end Go.Proofs.YtmbbahlenanpfaaDoor

namespace Go.Proofs.YtmbbahlenanpfaaDoor
open Go Go.RowKit

/-- Beyond base, and none of the arrays of these slices. -/
def Av (base : Nat) (us : List Value) (g : Nat) : Prop := base ≤ g ∧ ∀ u ∈ us, some g ≠ u.ownBlock
theorem Av.sub {base : Nat} {us us' : List Value} {g : Nat} (h : Av base us g) (hs : ∀ u ∈ us', u ∈ us) : Av base us' g := ⟨h.1, fun u hu => h.2 u (hs u hu)⟩
section
variable {α : Type} {E : Enc α} {base : Nat} {e : TypeId} {w w' : World} {v u u' : Value} {xs : List α} {us : List Value}
theorem Acc.beside (h : Acc E base e (Av base (u :: us)) w v xs) (hg : w.grownBy w' u.ownBlock) (hm : Moved w u u') : Acc E base e (Av base (u' :: us)) w' v xs := by
  have h1 : Acc E base e (fun g => Av base (u' :: us) g ∧ some g ≠ u.ownBlock) w v xs := h.more fun g hg ha => by
    refine ⟨⟨ha.1, fun z hz => ?_⟩, ha.2 u (by simp)⟩
    rcases List.mem_cons.1 hz with rfl | hz
    · exact fun e => (hm.ne hg (fun e => ha.2 u (by simp) e.symm)) e.symm
    · exact ha.2 z (by simp [hz])
  exact (h1.keep hg fun g hg => hg.2).more fun g _ hg => hg.1
/-- New blocks are none of theirs. -/
theorem av_new {g : Nat} (hb : base ≤ w.heap.size) (hu : ∀ u ∈ us, ∀ k, u.ownBlock = some k → k < w.heap.size) (hg : w.heap.size ≤ g) : Av base us g := ⟨by omega, fun u h e => by have := hu u h g e.symm; omega⟩
theorem av_nil (base : Nat) : ∀ g, base ≤ g → Av base [] g := fun g h => ⟨h, fun u hu => by cases hu⟩
end
/-- One thing, just told, in a slice just laid. -/
theorem Sl.one {α : Type} {E : Enc α} {X : Nat → Prop} {w : World} {t : TypeId} {c : List Value} {x : α} (hX : ∀ g, w.heap.size ≤ g → X g) (hr : E.rep X w c x) : Sl E X (w.alloc (.cells c.toArray t)) (.slice (some ⟨w.heap.size, 0, none⟩) 1 1) [x] := by
  have hk := E.keep hr (World.grownBy_alloc w (.cells c.toArray t) none) (by simp)
  exact Sl.block (xs := [x]) (Bk.new w t c.toArray) (hX _ (Nat.le_refl _)) [c] rfl (fun i hi hi' => by
    obtain rfl : i = 0 := by simp at hi; omega
    exact hk) (by simp) (Nat.le_refl _) (by decide)
end Go.Proofs.YtmbbahlenanpfaaDoor
