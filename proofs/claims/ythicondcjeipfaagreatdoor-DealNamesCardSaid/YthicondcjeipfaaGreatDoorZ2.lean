/- pedersen.Coms, walked: a range over a function within a range over a function. pedersen.Matrix, walked. pedersen.Formed: slices.ContainsFunc over numbers and over lists of numbers. pedersen.secrets, all, Formed. A region that draws its order, walked ONCE, in the order of its text: each operation (but for a tail that waits for all of them) leaves what lay there as it was, and tells a value of which something is known in every world grown from the region's first. A region that draws its order and writes while it goes on: walked once, when each operation tells one and the same value, and where the worlds stand is told by which operations were carried out. Sums, differences, products modulo a number, and inverses, as calls that leave what was there as it was. The law for drawn regions, in a walk that meets rounds (the wide fence): the tail may call yield. A range over a function whose body never leaves, where what is handed over lies in memory that the iterator has just laid: the body is told what is known of it in the world in which it is called. poly.others, an iterator over how far places are from each other, walked (printed by mk_poly.py). poly.share, walked. poly.may and poly.unlike, walked: what is wrong with places (a map of those met). poly.Weights, walked. share.secrets, small, all, weights, walked. share.all, walked (printed by mk_shrb.py). share.weights, Coms' closures, come over numbers, walked. share.come over numbers, members, walked. share.members, and slices.ContainsFunc at share's closures, walked (printed by mk_shre.py). A pair made in memory. share.Sum's closures, walked (printed by mk_shrf.py). share.come over pairs, walked (printed by mk_shrg.py). share.Sum, walked (printed by mk_shrh.py). fixed.Int, walked. Dealt as data. share.Coms, walked (printed by mk_shrk.py). Draws of a tape, told to what deals: tape.New, deal.secrets, deal.behind, walked. slices.Chunk, an iterator over pieces of a list, walked. A region that draws its order, in which some operations, one behind the other (the late ones: appends, stores), turn what lay there (printed by mk_late.py from XMono). share.Model, walked. The document's comparisons, of what is the same, walked. The document's comparison of models, of what is the same, walked. Weights, sums and commitments reckoned: what Lean can decide. math/bits.TrailingZeros64 and mod.Prime, walked. What comes in: data of whatever depth, as the walks want it. group.May, walked: its asks one by one. -/
import Derived.Test.YthicondcjeipfaaGreatDoorZ1
import Derived.Orders
import Derived.StillTail
import Derived.OrdersIn
import Derived.TacticsIn
import Derived.RangeFuncNested
import Derived.Maps.OwnOps
import Derived.Maps.OwnSet
import Derived.Maps.Views
import Derived.WalkKit
import Derived.Deep.QuietTactic
import Derived.BigQuiet
import Derived.Deep.LoopGhost
import Derived.Lib.TrailingZeros
import Derived.WalkMore
import Derived.ProofKit
import Derived.OpenShut
import Derived.ChangeOld
import Derived.Deep.Slices
namespace Go.Proofs.YthicondcjeipfaaGreatDoor
open Go Go.RowKit Go.Shelf

attribute [local go_sem] Oper.semAt_some
theorem wpIn_round_any {P : Program} {ops : Array Oper} {R : Act → World → Prop} {Q : Exit → Act → World → Prop} {l0 n id : Nat} {a : Act} {w : World} (hm : P.follows .mixedOrders = true) (hdf : noDefer ops = true) (hR : ∀ a w, R a w → Q .normal a w)
    (h : wpAny P .any ops (Only R) ops.size (Array.replicate ops.size false) a w.drew) : (Code.region id ops true).wpIn (Fence.wide.inRound l0) n P Q a w :=
  wpIn_region_any hm (wpAnyIn_of_any (noDefer_spec hdf) hR _ _ _ _ h)
def comI (p : Par) (x : List Int × List Int) : List Int := (zipU x.1 x.2).map (commitI p)
def comsI (p : Par) (f r : List (List Int)) : List (List Int) := (zipS f r).map (comI p)
abbrev small1 (c : List Int) : Prop := c.length ≤ 100000
theorem map_val_commit (p : Par) {ys : List UU} {z : List (Int × Int)} (h : ys.map Subtype.val = z) : ys.map (fun y => commitI p y.1) = z.map (commitI p) := by
  rw [← h, List.map_map]
  rfl
theorem map_lists_com (p : Par) {X : Nat → Prop} {w₀ : World} {G : List Int → Prop} {ys : List (SS encU X w₀ G)} {z : List (List Int × List Int)} (h : ys.map SS.lists = z) : ys.map (fun y => comI p y.lists) = z.map (comI p) := by
  rw [← h, List.map_map]
  rfl
set_option maxRecDepth 100000 in
set_option maxHeartbeats 4000000 in
theorem coms_in (n : Nat) (hn : 6 ≤ n) (p : Par) (vf vr : Value) (f r : List (List Int)) (X : Nat → Prop) (w : World) (hp : p.ok) (hf : Sl (encS encU) X w vf f) (hr : Sl (encS encU) X w vr r) (hb1 : f.length ≤ 100000) (hb2 : r.length ≤ 100000) (hb3 : ∀ c ∈ f, small1 c) (hb4 : ∀ c ∈ r, small1 c) :
    CallsIn Fence.wide n Tryz.prog 43 #[p.v, vf, vr] w (Gives (encS encU) (fun g => w.heap.size ≤ g) w (comsI p f r)) := by
  have h1 : 1 ≤ n := by omega
  have HF := Lib.hid hf
  have HR := Lib.hid hr
  have HP := Lib.hid hp
  obtain ⟨A1, c1, rfl, _, _⟩ := hf.form
  obtain ⟨A2, c2, rfl, _, _⟩ := hr.form
  clear hf hr hp
  have HZL : Hid ((zipS f r).length ≤ 100000) := Lib.hid (by simp [zipS]; omega)
  refine callsIn_of_wp_marks Tryz.func43 rfl trivial ?_ rfl
  simp only [Tryz.ntmps43, List.size_toArray, List.length_cons, List.length_nil, Nat.reduceAdd, Nat.reduceSub, Array.replicate_succ, Array.replicate_zero, List.push_toArray, List.append_toArray, List.nil_append, List.cons_append]
  gi_wp2_with (refine ⟨trivial, ?_⟩; refine (callsIn_wide.2 (pairsS_any _ _ _ _ _ _ _)).mono ?_; rintro e w' ⟨rfl, rfl⟩)
  have hs1 : (w.alloc (.cells p.cells 24)).heap.size = w.heap.size + 1 := by simp
  have hs2 : ((w.alloc (.cells p.cells 24)).alloc (.cells #[.slice none 0 0] 47)).heap.size = w.heap.size + 1 + 1 := by simp
  have hs3 : (((w.alloc (.cells p.cells 24)).alloc (.cells #[.slice none 0 0] 47)).alloc (.cells #[.slice A1 f.length c1] 47)).heap.size = w.heap.size + 1 + 1 + 1 := by simp
  have bP : Bk _ w.heap.size 24 p.cells := (((Bk.new w 24 p.cells).alloc (.cells #[.slice none 0 0] 47)).alloc (.cells #[.slice A1 f.length c1] 47)).alloc (.cells #[.slice A2 r.length c2] 47)
  have bO := ((Boxed.new (w.alloc (.cells p.cells 24)) 47 (.slice none 0 0)).alloc (.cells #[.slice A1 f.length c1] 47)).alloc (.cells #[.slice A2 r.length c2] 47)
  have bA := (Boxed.new ((w.alloc (.cells p.cells 24)).alloc (.cells #[.slice none 0 0] 47)) 47 (.slice A1 f.length c1)).alloc (.cells #[.slice A2 r.length c2] 47)
  have bB := Boxed.new (((w.alloc (.cells p.cells 24)).alloc (.cells #[.slice none 0 0] 47)).alloc (.cells #[.slice A1 f.length c1] 47)) 47 (.slice A2 r.length c2)
  rw [hs1] at bO
  rw [hs2] at bA
  rw [hs3] at bB
  have hB0 : Below w.heap.size w ((((w.alloc (.cells p.cells 24)).alloc (.cells #[.slice none 0 0] 47)).alloc (.cells #[.slice A1 f.length c1] 47)).alloc (.cells #[.slice A2 r.length c2] 47)) := below_grown (((World.grownBy_alloc w _ none).trans (World.grownBy_alloc _ _ none)).trans ((World.grownBy_alloc _ _ none).trans (World.grownBy_alloc _ _ none)))
  have hsz : ((((w.alloc (.cells p.cells 24)).alloc (.cells #[.slice none 0 0] 47)).alloc (.cells #[.slice A1 f.length c1] 47)).alloc (.cells #[.slice A2 r.length c2] 47)).heap.size = w.heap.size + 4 := by simp
  obtain ⟨W0, hW0⟩ : ∃ W0, (((w.alloc (.cells p.cells 24)).alloc (.cells #[.slice none 0 0] 47)).alloc (.cells #[.slice A1 f.length c1] 47)).alloc (.cells #[.slice A2 r.length c2] 47) = W0 := ⟨_, rfl⟩
  rw [hW0] at bP bO bA bB hB0 hsz ⊢
  clear hW0 hs1 hs2 hs3
  have HPG : Hid (∀ c ∈ f, small1 c) := Lib.hid hb3
  refine wpIn_rangeFunc_ownH rfl h1 (gf := 100) (lb := #[.pointer (some ⟨w.heap.size + 1 + 1, 0, none⟩), .pointer (some ⟨w.heap.size + 1 + 1 + 1, 0, none⟩)]) rfl trivial (enters_of Tryz.func100 (by kernel_rfl) rfl)
    (pairsS_stops (n - 1) (by omega) (w.heap.size + 1 + 1) (w.heap.size + 1 + 1 + 1) _ _ f r X w W0 small1 (by simp) hb3 hb4 hB0 bA bB HF.out HR.out) KpAB.trans (KpAB.b (by omega) (by omega) (by omega)) (Below.refl _ _) (fun _ => rfl)
    (fun pre W => (∃ v, Boxed W (w.heap.size + 1) 47 v ∧ Acc (encS encU) (w.heap.size + 4) 29 (fun g => w.heap.size + 4 ≤ g) W v (pre.map fun x => comI p x.lists)) ∧ Bk W w.heap.size 24 p.cells ∧ Below w.heap.size w W ∧ Boxed W (w.heap.size + 1 + 1) 47 (.slice A1 f.length c1) ∧ Boxed W (w.heap.size + 1 + 1 + 1) 47 (.slice A2 r.length c2))
    (fun _ _ _ => False)
    (fun pre X Y row hs hg hrow => by
      obtain ⟨⟨v, hb, ha⟩, hk, hB, hb2, hb3⟩ := hs
      have hr' := fun r e => (hrow r e).2
      exact ⟨⟨v, hb.kept hg (boxNe hb hr'), ha.keepc hg hr'⟩, hk.grown hg (cell_ne (hk.cell 0) hr'), hB.grown hg hB.size (fun k e => by have := (hrow k e).1; omega), hb2.kept hg (boxNe hb2 hr'), hb3.kept hg (boxNe hb3 hr')⟩)
    (fun _ _ _ _ _ hs _ _ => hs)
    ⟨⟨_, bO, Acc.nil _ _ _ _ _⟩, bP, hB0, bA, bB⟩
    (fun x a' _ => a' = { tmps := #[p.v, .slice A1 f.length c1, .slice A2 r.length c2, .pointer (some ⟨w.heap.size, 0, none⟩), undef, undef, .slice none 0 0, .pointer (some ⟨w.heap.size + 1, 0, none⟩), x.1.1.1, x.1.2.1, undef, undef, undef, .slice A1 f.length c1, .slice A2 r.length c2, .func (.func 100) #[] #[.pointer (some ⟨w.heap.size + 1 + 1, 0, none⟩), .pointer (some ⟨w.heap.size + 1 + 1 + 1, 0, none⟩)], x.1.1.1, x.1.2.1, undef, undef, undef, undef, undef, undef, undef, undef, undef, undef, undef, undef, undef, undef, undef, undef, undef, undef], defers := [] })
    (fun _ _ _ _ _ _ hs _ _ => hs)
    ?assign ?body ?done ?stop
  case assign =>
    rintro l pre x W K hi hK
    gi_wp2
    exact hK _ _ (KeepsFrom.refl _ _) (KpAB.refl _ _ _ _) hi rfl
  case body =>
    rintro l pre ⟨⟨⟨v1, l1⟩, ⟨v2, l2⟩⟩, ⟨hv1, hg1⟩, ⟨hv2, hg2⟩⟩ a' W hl ⟨r0, hr0⟩ ⟨⟨v, hbo, hao⟩, hbp, hbl, hba, hbb⟩ rfl hlt
    have k1 : Sl encU X w v1 l1 := hv1
    have k2 : Sl encU X w v2 l2 := hv2
    have k3 : l1.length ≤ 100000 := hg1
    have k4 : l2.length ≤ 100000 := hg2
    have HV1 := Lib.hid k1
    have HV2 := Lib.hid k2
    obtain ⟨D1, d1, rfl, _, _⟩ := k1.form
    obtain ⟨D2, d2, rfl, _, _⟩ := k2.form
    have HSM : Hid ((zipU l1 l2).length ≤ 100000) := Lib.hid (by simp [zipU]; omega)
    have HPL : Hid (pre.length < 100000) := Lib.hid (Nat.lt_of_lt_of_le hlt HZL.out)
    clear k1 k2 k3 k4 hlt
    dsimp only
    gi_wp2_with (refine ⟨trivial, fun _ => by omega, ?_⟩; refine (CallsIn.inRound l (callsIn_wide.2 (pairsU_any _ _ _ _ _ _ _))).mono ?_; rintro e w' ⟨rfl, rfl⟩)
    have hs1 : (W.alloc (.cells #[.slice none 0 0] 29)).heap.size = W.heap.size + 1 := by simp
    have hs2 : ((W.alloc (.cells #[.slice none 0 0] 29)).alloc (.cells #[.slice D1 l1.length d1] 29)).heap.size = W.heap.size + 1 + 1 := by simp
    have bL := ((Boxed.new W 29 (.slice none 0 0)).alloc (.cells #[.slice D1 l1.length d1] 29)).alloc (.cells #[.slice D2 l2.length d2] 29)
    have bC := (Boxed.new (W.alloc (.cells #[.slice none 0 0] 29)) 29 (.slice D1 l1.length d1)).alloc (.cells #[.slice D2 l2.length d2] 29)
    have bD := Boxed.new ((W.alloc (.cells #[.slice none 0 0] 29)).alloc (.cells #[.slice D1 l1.length d1] 29)) 29 (.slice D2 l2.length d2)
    rw [hs1] at bC
    rw [hs2] at bD
    have hg2 : W.grownBy (((W.alloc (.cells #[.slice none 0 0] 29)).alloc (.cells #[.slice D1 l1.length d1] 29)).alloc (.cells #[.slice D2 l2.length d2] 29)) none := ((World.grownBy_alloc W _ none).trans (World.grownBy_alloc _ _ none)).trans (World.grownBy_alloc _ _ none)
    have hsz2 : (((W.alloc (.cells #[.slice none 0 0] 29)).alloc (.cells #[.slice D1 l1.length d1] 29)).alloc (.cells #[.slice D2 l2.length d2] 29)).heap.size = W.heap.size + 3 := by simp
    obtain ⟨W2, hW2⟩ : ∃ W2, ((W.alloc (.cells #[.slice none 0 0] 29)).alloc (.cells #[.slice D1 l1.length d1] 29)).alloc (.cells #[.slice D2 l2.length d2] 29) = W2 := ⟨_, rfl⟩
    rw [hW2] at bL bC bD hg2 hsz2 ⊢
    clear hW2 hs1 hs2
    have hNW := hbl.size
    have hbW2 : Below w.heap.size w W2 := hbl.trans ((below_grown hg2).mono hNW)
    have hr' : W2.heap[l]? = some (.loop r0) := (hg2.block l (Array.getElem?_eq_some_iff.1 hr0).1 (by simp)).trans hr0
    have hkf2 : KeepsFrom W0.heap.size W W2 := (keeps_none hg2).from _
    refine wpIn_rangeFunc_ownN (l₀ := l) (r₀ := r0) rfl hr' (by omega) (gf := 102) (lb := #[.pointer (some ⟨W.heap.size + 1, 0, none⟩), .pointer (some ⟨W.heap.size + 1 + 1, 0, none⟩)]) rfl trivial (enters_of Tryz.func102 (by kernel_rfl) rfl)
      ((pairsU_stops (n - 1 - 1 - 1) (by omega) (W.heap.size + 1) (W.heap.size + 1 + 1) _ _ l1 l2 X w W2 hbW2 bC bD HV1.out HV2.out).inRound l) KpAB.trans (KpAB.b (by omega) (by omega) (by omega)) (Below.refl _ _) (fun _ => rfl)
      (fun pre' W' => (∃ u, Boxed W' W.heap.size 29 u ∧ Acc encU (W.heap.size + 3) 22 (fun g => W.heap.size + 3 ≤ g) W' u (pre'.map fun y => commitI p y.1)) ∧ Below W.heap.size W W' ∧ KeepsFrom W0.heap.size W W' ∧ Boxed W' (W.heap.size + 1) 29 (.slice D1 l1.length d1) ∧ Boxed W' (W.heap.size + 1 + 1) 29 (.slice D2 l2.length d2))
      (fun _ _ _ => False)
      (fun pre' X' Y row hs hg hrow => by
        obtain ⟨⟨u, hb, ha⟩, hB, hK, hb2, hb3⟩ := hs
        have hr' := fun r e => (hrow r e).2
        exact ⟨⟨u, hb.kept hg (boxNe hb hr'), ha.keepc hg hr'⟩, hB.grown hg hB.size (fun k e => by have := (hrow k e).1; omega), ownFrom_keepsFrom (B' := W2.heap.size) hg2.size () X' Y row hK hg hrow, hb2.kept hg (boxNe hb2 hr'), hb3.kept hg (boxNe hb3 hr')⟩)
      (fun _ _ _ _ _ hs _ _ => hs)
      ⟨⟨_, bL, Acc.nil _ _ _ _ _⟩, below_grown hg2, hkf2, bC, bD⟩
      (fun y a'' _ => a'' = { tmps := #[p.v, .slice A1 f.length c1, .slice A2 r.length c2, .pointer (some ⟨w.heap.size, 0, none⟩), undef, undef, .slice none 0 0, .pointer (some ⟨w.heap.size + 1, 0, none⟩), .slice D1 l1.length d1, .slice D2 l2.length d2, .pointer (some ⟨W.heap.size, 0, none⟩), .int .u64 y.1.1, .int .u64 y.1.2, .slice A1 f.length c1, .slice A2 r.length c2, .func (.func 100) #[] #[.pointer (some ⟨w.heap.size + 1 + 1, 0, none⟩), .pointer (some ⟨w.heap.size + 1 + 1 + 1, 0, none⟩)], .slice D1 l1.length d1, .slice D2 l2.length d2, .slice D1 l1.length d1, .slice D2 l2.length d2, .func (.func 102) #[] #[.pointer (some ⟨W.heap.size + 1, 0, none⟩), .pointer (some ⟨W.heap.size + 1 + 1, 0, none⟩)], .int .u64 y.1.1, .int .u64 y.1.2, undef, undef, undef, undef, undef, undef, undef, undef, undef, undef, undef, undef, undef], defers := [] })
      (fun _ _ _ _ _ _ hs _ _ => hs)
      ?assign2 ?body2 ?done2 ?stop2
    case assign2 =>
      rintro lq pre' y W' K hi hK
      gi_wp2
      exact hK _ _ (KeepsFrom.refl _ _) (KpAB.refl _ _ _ _) hi rfl
    case body2 =>
      rintro lq pre' ⟨⟨y1, y2⟩, hu1, hu2⟩ a'' W' hl2 _ ⟨⟨u, hbu, hau⟩, hBW, hKF, hbc, hbd⟩ rfl hlt2
      have HY1 : Hid (U64 y1) := Lib.hid hu1
      have HY2 : Hid (U64 y2) := Lib.hid hu2
      obtain ⟨A3, c3, e3, _, _⟩ := hau.sl.form
      rw [List.length_map] at e3
      subst e3
      have HAC := Lib.hid hau
      have HBL := Lib.hid hbu
      have HBC := Lib.hid hbc
      have HBD := Lib.hid hbd
      have HBW := Lib.hid hBW
      have HKF := Lib.hid hKF
      have hltM : W.heap.size < W'.heap.size := hbu.lt
      have hltN : w.heap.size < W'.heap.size := by omega
      have HS0 : Hid (W.heap.size + 3 ≤ W'.heap.size) := Lib.hid (by have := hbd.lt; omega)
      have hpr := (hbp.grown (grown_of_below hBW) (by simp)).prule
      have cU := hbu.cell
      have HCU : Hid (U64 (commitI p (y1, y2))) := Lib.hid (timesI_U64 _ _)
      have HLB : Hid (((pre'.map fun y : UU => commitI p y.1).length + 1) * 8 ≤ 140737488355328) := Lib.hid (by rw [List.length_map]; have := HSM.out; omega)
      clear hau hbc hbd hBW hKF hbu hlt2
      have FIN : ∀ (w3 w4 : World) (A4 : Option Addr) (n4 c4 : Nat), W'.grownBy w3 none → w3.grownBy w4 (Value.slice A3 pre'.length c3).ownBlock → Acc encU (W.heap.size + 3) 22 (fun g => W.heap.size + 3 ≤ g) w3 (.slice A3 pre'.length c3) (pre'.map fun y : UU => commitI p y.1) → Acc encU (W.heap.size + 3) 22 (fun g => W.heap.size + 3 ≤ g) w4 (.slice A4 n4 c4) ((pre'.map fun y : UU => commitI p y.1) ++ [commitI p (y1, y2)]) → Boxed w4 W.heap.size 29 (.slice A3 pre'.length c3) → (fun w5 : World => KeepsFrom W2.heap.size W' w5 ∧ KpAB w.heap.size (W.heap.size + 1) (W.heap.size + 1 + 1) W' w5 ∧ (∃ u, Boxed w5 W.heap.size 29 u ∧ Acc encU (W.heap.size + 3) 22 (fun g => W.heap.size + 3 ≤ g) w5 u ((pre' ++ [(⟨(y1, y2), hu1, hu2⟩ : UU)]).map fun y => commitI p y.1)) ∧ Below W.heap.size W w5 ∧ KeepsFrom W0.heap.size W w5 ∧ Boxed w5 (W.heap.size + 1) 29 (.slice D1 l1.length d1) ∧ Boxed w5 (W.heap.size + 1 + 1) 29 (.slice D2 l2.length d2)) (w4.setCell ⟨W.heap.size, 0, none⟩ (.slice A4 n4 c4)) := by
        intro w3 w4 A4 n4 c4 hG3 hG4 hA3 hA4 hB4
        have hN2 : ∀ k, k < W.heap.size + 3 → some k ≠ (Value.slice A3 pre'.length c3).ownBlock := fun k hk e => by have := (hA3.lt k e.symm).1; omega
        have hN3 : ∀ k, (Value.slice A3 pre'.length c3).ownBlock = some k → W.heap.size + 3 ≤ k := fun k e => (hA3.lt k e).1
        have hK5 : KeepsOthers W' (w4.setCell ⟨W.heap.size, 0, none⟩ (.slice A4 n4 c4)) := ((keeps_none hG3).trans (hA3.keeps hG4)).trans (KeepsOthers.setCell _ _ _)
        have b1 := ((HBC.out.kept hG3 (by simp)).kept hG4 (hN2 _ (by omega))).other (B' := W.heap.size) (by omega) (.slice A4 n4 c4)
        have b2 := ((HBD.out.kept hG3 (by simp)).kept hG4 (hN2 _ (by omega))).other (B' := W.heap.size) (by omega) (.slice A4 n4 c4)
        have hS3 : W'.heap.size ≤ w3.heap.size := hG3.size
        refine ⟨hK5.from _, ⟨(((Below.refl _ W').grown hG3 (by omega) (by simp)).grown hG4 (by omega) (fun k e => by have := hN3 k e; omega)).setCell (p := ⟨W.heap.size, 0, none⟩) hNW _, Eq.trans b1 (Eq.symm HBC.out), Eq.trans b2 (Eq.symm HBD.out)⟩, ⟨_, hB4.set _, ?_⟩, ((HBW.out.grown hG3 (by omega) (by simp)).grown hG4 (by omega) (fun k e => by have := hN3 k e; omega)).setCell (p := ⟨W.heap.size, 0, none⟩) (Nat.le_refl _) _, HKF.out.trans (hK5.from _), b1, b2⟩
        rw [List.map_append]
        exact hA4.keep (grownBy_setCell' w4 W.heap.size _) (fun g hg e => by injection e with e; omega)
      dsimp only
      gi_wp2
      refine wpIn_round_any (l0 := lq) (R := fun _ w5 => KeepsFrom W2.heap.size W' w5 ∧ KpAB w.heap.size (W.heap.size + 1) (W.heap.size + 1 + 1) W' w5 ∧ (∃ u, Boxed w5 W.heap.size 29 u ∧ Acc encU (W.heap.size + 3) 22 (fun g => W.heap.size + 3 ≤ g) w5 u ((pre' ++ [(⟨(y1, y2), hu1, hu2⟩ : UU)]).map fun y => commitI p y.1)) ∧ Below W.heap.size W w5 ∧ KeepsFrom W0.heap.size W w5 ∧ Boxed w5 (W.heap.size + 1) 29 (.slice D1 l1.length d1) ∧ Boxed w5 (W.heap.size + 1 + 1) 29 (.slice D2 l2.length d2)) (by kernel_rfl) (by kernel_rfl) (fun a w h => h) ?_
      refine wpAny_take (i := 2) (oi := ({ dst := some 25, op := Op.move (Operand.tmp 11), type := 22, pos := "pedersen.go:41", after := #[], guard := none } : Oper)) (v := ?vq1) rfl (by kernel_rfl) (by kernel_rfl) (by kernel_rfl) (fun _ _ _ h => h) (Or.inl ⟨by rfl, ?hq1⟩) ?rq1
      case hq1 => (intro w; go_simp; first | done | with_reducible rfl)
      try simp only [Act.put, List.setIfInBounds_toArray, List.set_cons_zero, List.set_cons_succ]
      refine wpAny_take (i := 3) (oi := ({ dst := some 26, op := Op.move (Operand.tmp 12), type := 22, pos := "pedersen.go:41", after := #[], guard := none } : Oper)) (v := ?vq2) rfl (by kernel_rfl) (by kernel_rfl) (by kernel_rfl) (fun _ _ _ h => h) (Or.inl ⟨by rfl, ?hq2⟩) ?rq2
      case hq2 => (intro w; go_simp; first | done | with_reducible rfl)
      try simp only [Act.put, List.setIfInBounds_toArray, List.set_cons_zero, List.set_cons_succ]
      refine wpAny_take (i := 4) (oi := ({ dst := some 27, op := Op.build 38 #[(0, Operand.tmp 25), (1, Operand.tmp 26)], type := 38, pos := "pedersen.go:41", after := #[{ on := 2, ground := Ground.data }, { on := 3, ground := Ground.data }], guard := none } : Oper)) (v := ?vq3) rfl (by kernel_rfl) (by kernel_rfl) (by kernel_rfl) (fun _ _ _ h => h) (Or.inl ⟨by rfl, ?hq3⟩) ?rq3
      case hq3 => (intro w; go_simp; first | done | with_reducible rfl)
      try simp only [Act.put, List.setIfInBounds_toArray, List.set_cons_zero, List.set_cons_succ]
      refine wpAny_ready (rs := [0, 1]) (by kernel_rfl) (by simp) ?_
      refine AllReady.cons (o := ({ dst := some 23, op := Op.load 29 (Operand.tmp 10), type := 29, pos := "pedersen.go:41", after := #[], guard := none } : Oper)) rfl (fun K hK => ?_) ?_
      · skip
        go_simp
        refine hK _ _ ?_
        clear hK K
        try simp only [Act.put, List.setIfInBounds_toArray, List.set_cons_zero, List.set_cons_succ]
        refine wpAny_ready (rs := [1]) (by kernel_rfl) (by simp) ?_
        refine AllReady.cons (o := ({ dst := some 24, op := Op.load 24 (Operand.tmp 3), type := 24, pos := "pedersen.go:41", after := #[], guard := none } : Oper)) rfl (fun K hK => ?_) AllReady.nil
        go_simp
        refine hK _ _ ?_
        clear hK K
        try simp only [Act.put, List.setIfInBounds_toArray, List.set_cons_zero, List.set_cons_succ]
        refine wpAny_ready (rs := [5]) (by kernel_rfl) (by simp) ?_
        refine AllReady.cons (o := ({ dst := some 28, op := Op.call { callee := Callee.value (Operand.func 75), args := #[Operand.tmp 24, Operand.tmp 27], argTypes := #[24, 38] }, type := 22, pos := "pedersen.go:41", after := #[{ on := 1, ground := Ground.data }, { on := 4, ground := Ground.data }], guard := none } : Oper)) rfl (fun K hK => ?_) AllReady.nil
        go_simp
        (go_at_call 75; (with_reducible refine (commit_any p (y1, y2) _ HP.out HY1.out HY2.out).mono ?_); rintro e w3 ⟨rfl, hg3⟩)
        have HG3 : Hid (W'.grownBy w3 none) := Lib.hid ((grown_drewN' W' 1).trans hg3)
        have HA3 := Lib.hid (HAC.out.kept HG3.out)
        have HB3 := Lib.hid (HBL.out.kept HG3.out (by simp))
        have HSZ : Hid (W.heap.size + 3 ≤ w3.heap.size) := Lib.hid (Nat.le_trans HS0.out HG3.out.size)
        have HNX : Hid (∀ g, w3.heap.size ≤ g → W.heap.size + 3 ≤ g) := Lib.hid (fun g hg => Nat.le_trans HSZ.out hg)
        have HNE : Hid (some W.heap.size ≠ (Value.slice A3 pre'.length c3).ownBlock) := Lib.hid (fun e => by have := (HA3.out.lt _ e.symm).1; omega)
        have hc3 := HB3.out.cell
        have hc3a := (HB3.out.alloc (.cells #[.int .u64 (commitI p (y1, y2))] 22)).cell
        clear hg3
        dsimp only
        refine hK _ _ ?_
        clear hK K
        try simp only [Act.put, List.setIfInBounds_toArray, List.set_cons_zero, List.set_cons_succ]
        refine wpAny_ready (rs := [6]) (by kernel_rfl) (by simp) ?_
        refine AllReady.cons (o := ({ dst := some 29, op := Op.buildSlice 29 1 #[(0, Operand.tmp 28)], type := 29, pos := "pedersen.go:41", after := #[{ on := 5, ground := Ground.data }], guard := none } : Oper)) rfl (fun K hK => ?_) AllReady.nil
        go_simp
        refine hK _ _ ?_
        clear hK K
        try simp only [Act.put, List.setIfInBounds_toArray, List.set_cons_zero, List.set_cons_succ]
        refine wpAny_ready (rs := [7]) (by kernel_rfl) (by simp) ?_
        refine AllReady.cons (o := ({ dst := some 30, op := Op.call { callee := Callee.builtin Builtin.append, args := #[Operand.tmp 23, Operand.tmp 29], argTypes := #[29, 29] }, type := 29, pos := "pedersen.go:41", after := #[{ on := 0, ground := Ground.data }, { on := 6, ground := Ground.data }, { on := 5, ground := Ground.chain }], guard := none } : Oper)) rfl (fun K hK => ?_) AllReady.nil
        refine step_push rfl (.tmp 23) (.tmp 29) rfl (E := encU) (y := commitI p (y1, y2)) el_u64 HA3.out rfl rfl ⟨rfl, HCU.out⟩ HLB.out HSZ.out HNX.out ?_
        intro v4 w4 hacc4 hg4 _
        obtain ⟨A4, c4, e4, _, _⟩ := hacc4.sl.form
        generalize (List.map (fun y : UU => commitI p y.1) pre' ++ [commitI p (y1, y2)]).length = n4 at e4
        subst e4
        have HA4 := Lib.hid hacc4
        have HG4 := Lib.hid hg4
        have hB4 := HB3.out.kept HG4.out HNE.out
        have cB4 := hB4.cell
        have fB4 := hB4.frozen
        have HB4 := Lib.hid hB4
        clear hacc4 hg4 hB4
        refine hK _ _ ?_
        clear hK K
        try simp only [Act.put, List.setIfInBounds_toArray, List.set_cons_zero, List.set_cons_succ]
        refine wpAny_ready (rs := [8]) (by kernel_rfl) (by simp) ?_
        refine AllReady.cons (o := ({ dst := none, op := Op.store 29 (Operand.tmp 10) (Operand.tmp 30), type := 0, pos := "pedersen.go:41", after := #[{ on := 7, ground := Ground.data }, { on := 7, ground := Ground.chain }, { on := 0, ground := Ground.phase }, { on := 1, ground := Ground.phase }, { on := 2, ground := Ground.phase }, { on := 3, ground := Ground.phase }, { on := 4, ground := Ground.phase }, { on := 5, ground := Ground.phase }, { on := 6, ground := Ground.phase }, { on := 7, ground := Ground.phase }], guard := none } : Oper)) rfl (fun K hK => ?_) AllReady.nil
        go_simp
        refine hK _ _ ?_
        clear hK K
        try simp only [Act.put, List.setIfInBounds_toArray, List.set_cons_zero, List.set_cons_succ]
        refine wpAny_done (by kernel_rfl) ?_ _
        exact ⟨rfl, FIN w3 w4 A4 n4 c4 HG3.out HG4.out HA3.out HA4.out HB4.out⟩
      refine AllReady.cons (o := ({ dst := some 24, op := Op.load 24 (Operand.tmp 3), type := 24, pos := "pedersen.go:41", after := #[], guard := none } : Oper)) rfl (fun K hK => ?_) AllReady.nil
      go_simp
      refine hK _ _ ?_
      clear hK K
      try simp only [Act.put, List.setIfInBounds_toArray, List.set_cons_zero, List.set_cons_succ]
      refine wpAny_ready (rs := [0, 5]) (by kernel_rfl) (by simp) ?_
      refine AllReady.cons (o := ({ dst := some 23, op := Op.load 29 (Operand.tmp 10), type := 29, pos := "pedersen.go:41", after := #[], guard := none } : Oper)) rfl (fun K hK => ?_) ?_
      · skip
        go_simp
        refine hK _ _ ?_
        clear hK K
        try simp only [Act.put, List.setIfInBounds_toArray, List.set_cons_zero, List.set_cons_succ]
        refine wpAny_ready (rs := [5]) (by kernel_rfl) (by simp) ?_
        refine AllReady.cons (o := ({ dst := some 28, op := Op.call { callee := Callee.value (Operand.func 75), args := #[Operand.tmp 24, Operand.tmp 27], argTypes := #[24, 38] }, type := 22, pos := "pedersen.go:41", after := #[{ on := 1, ground := Ground.data }, { on := 4, ground := Ground.data }], guard := none } : Oper)) rfl (fun K hK => ?_) AllReady.nil
        go_simp
        (go_at_call 75; (with_reducible refine (commit_any p (y1, y2) _ HP.out HY1.out HY2.out).mono ?_); rintro e w3 ⟨rfl, hg3⟩)
        have HG3 : Hid (W'.grownBy w3 none) := Lib.hid ((grown_drewN' W' 1).trans hg3)
        have HA3 := Lib.hid (HAC.out.kept HG3.out)
        have HB3 := Lib.hid (HBL.out.kept HG3.out (by simp))
        have HSZ : Hid (W.heap.size + 3 ≤ w3.heap.size) := Lib.hid (Nat.le_trans HS0.out HG3.out.size)
        have HNX : Hid (∀ g, w3.heap.size ≤ g → W.heap.size + 3 ≤ g) := Lib.hid (fun g hg => Nat.le_trans HSZ.out hg)
        have HNE : Hid (some W.heap.size ≠ (Value.slice A3 pre'.length c3).ownBlock) := Lib.hid (fun e => by have := (HA3.out.lt _ e.symm).1; omega)
        have hc3 := HB3.out.cell
        have hc3a := (HB3.out.alloc (.cells #[.int .u64 (commitI p (y1, y2))] 22)).cell
        clear hg3
        dsimp only
        refine hK _ _ ?_
        clear hK K
        try simp only [Act.put, List.setIfInBounds_toArray, List.set_cons_zero, List.set_cons_succ]
        refine wpAny_ready (rs := [6]) (by kernel_rfl) (by simp) ?_
        refine AllReady.cons (o := ({ dst := some 29, op := Op.buildSlice 29 1 #[(0, Operand.tmp 28)], type := 29, pos := "pedersen.go:41", after := #[{ on := 5, ground := Ground.data }], guard := none } : Oper)) rfl (fun K hK => ?_) AllReady.nil
        go_simp
        refine hK _ _ ?_
        clear hK K
        try simp only [Act.put, List.setIfInBounds_toArray, List.set_cons_zero, List.set_cons_succ]
        refine wpAny_ready (rs := [7]) (by kernel_rfl) (by simp) ?_
        refine AllReady.cons (o := ({ dst := some 30, op := Op.call { callee := Callee.builtin Builtin.append, args := #[Operand.tmp 23, Operand.tmp 29], argTypes := #[29, 29] }, type := 29, pos := "pedersen.go:41", after := #[{ on := 0, ground := Ground.data }, { on := 6, ground := Ground.data }, { on := 5, ground := Ground.chain }], guard := none } : Oper)) rfl (fun K hK => ?_) AllReady.nil
        refine step_push rfl (.tmp 23) (.tmp 29) rfl (E := encU) (y := commitI p (y1, y2)) el_u64 HA3.out rfl rfl ⟨rfl, HCU.out⟩ HLB.out HSZ.out HNX.out ?_
        intro v4 w4 hacc4 hg4 _
        obtain ⟨A4, c4, e4, _, _⟩ := hacc4.sl.form
        generalize (List.map (fun y : UU => commitI p y.1) pre' ++ [commitI p (y1, y2)]).length = n4 at e4
        subst e4
        have HA4 := Lib.hid hacc4
        have HG4 := Lib.hid hg4
        have hB4 := HB3.out.kept HG4.out HNE.out
        have cB4 := hB4.cell
        have fB4 := hB4.frozen
        have HB4 := Lib.hid hB4
        clear hacc4 hg4 hB4
        refine hK _ _ ?_
        clear hK K
        try simp only [Act.put, List.setIfInBounds_toArray, List.set_cons_zero, List.set_cons_succ]
        refine wpAny_ready (rs := [8]) (by kernel_rfl) (by simp) ?_
        refine AllReady.cons (o := ({ dst := none, op := Op.store 29 (Operand.tmp 10) (Operand.tmp 30), type := 0, pos := "pedersen.go:41", after := #[{ on := 7, ground := Ground.data }, { on := 7, ground := Ground.chain }, { on := 0, ground := Ground.phase }, { on := 1, ground := Ground.phase }, { on := 2, ground := Ground.phase }, { on := 3, ground := Ground.phase }, { on := 4, ground := Ground.phase }, { on := 5, ground := Ground.phase }, { on := 6, ground := Ground.phase }, { on := 7, ground := Ground.phase }], guard := none } : Oper)) rfl (fun K hK => ?_) AllReady.nil
        go_simp
        refine hK _ _ ?_
        clear hK K
        try simp only [Act.put, List.setIfInBounds_toArray, List.set_cons_zero, List.set_cons_succ]
        refine wpAny_done (by kernel_rfl) ?_ _
        exact ⟨rfl, FIN w3 w4 A4 n4 c4 HG3.out HG4.out HA3.out HA4.out HB4.out⟩
      refine AllReady.cons (o := ({ dst := some 28, op := Op.call { callee := Callee.value (Operand.func 75), args := #[Operand.tmp 24, Operand.tmp 27], argTypes := #[24, 38] }, type := 22, pos := "pedersen.go:41", after := #[{ on := 1, ground := Ground.data }, { on := 4, ground := Ground.data }], guard := none } : Oper)) rfl (fun K hK => ?_) AllReady.nil
      go_simp
      (go_at_call 75; (with_reducible refine (commit_any p (y1, y2) _ HP.out HY1.out HY2.out).mono ?_); rintro e w3 ⟨rfl, hg3⟩)
      have HG3 : Hid (W'.grownBy w3 none) := Lib.hid ((grown_drewN' W' 1).trans hg3)
      have HA3 := Lib.hid (HAC.out.kept HG3.out)
      have HB3 := Lib.hid (HBL.out.kept HG3.out (by simp))
      have HSZ : Hid (W.heap.size + 3 ≤ w3.heap.size) := Lib.hid (Nat.le_trans HS0.out HG3.out.size)
      have HNX : Hid (∀ g, w3.heap.size ≤ g → W.heap.size + 3 ≤ g) := Lib.hid (fun g hg => Nat.le_trans HSZ.out hg)
      have HNE : Hid (some W.heap.size ≠ (Value.slice A3 pre'.length c3).ownBlock) := Lib.hid (fun e => by have := (HA3.out.lt _ e.symm).1; omega)
      have hc3 := HB3.out.cell
      have hc3a := (HB3.out.alloc (.cells #[.int .u64 (commitI p (y1, y2))] 22)).cell
      clear hg3
      dsimp only
      refine hK _ _ ?_
      clear hK K
      try simp only [Act.put, List.setIfInBounds_toArray, List.set_cons_zero, List.set_cons_succ]
      refine wpAny_ready (rs := [0, 6]) (by kernel_rfl) (by simp) ?_
      refine AllReady.cons (o := ({ dst := some 23, op := Op.load 29 (Operand.tmp 10), type := 29, pos := "pedersen.go:41", after := #[], guard := none } : Oper)) rfl (fun K hK => ?_) ?_
      · skip
        go_simp
        refine hK _ _ ?_
        clear hK K
        try simp only [Act.put, List.setIfInBounds_toArray, List.set_cons_zero, List.set_cons_succ]
        refine wpAny_ready (rs := [6]) (by kernel_rfl) (by simp) ?_
        refine AllReady.cons (o := ({ dst := some 29, op := Op.buildSlice 29 1 #[(0, Operand.tmp 28)], type := 29, pos := "pedersen.go:41", after := #[{ on := 5, ground := Ground.data }], guard := none } : Oper)) rfl (fun K hK => ?_) AllReady.nil
        go_simp
        refine hK _ _ ?_
        clear hK K
        try simp only [Act.put, List.setIfInBounds_toArray, List.set_cons_zero, List.set_cons_succ]
        refine wpAny_ready (rs := [7]) (by kernel_rfl) (by simp) ?_
        refine AllReady.cons (o := ({ dst := some 30, op := Op.call { callee := Callee.builtin Builtin.append, args := #[Operand.tmp 23, Operand.tmp 29], argTypes := #[29, 29] }, type := 29, pos := "pedersen.go:41", after := #[{ on := 0, ground := Ground.data }, { on := 6, ground := Ground.data }, { on := 5, ground := Ground.chain }], guard := none } : Oper)) rfl (fun K hK => ?_) AllReady.nil
        refine step_push rfl (.tmp 23) (.tmp 29) rfl (E := encU) (y := commitI p (y1, y2)) el_u64 HA3.out rfl rfl ⟨rfl, HCU.out⟩ HLB.out HSZ.out HNX.out ?_
        intro v4 w4 hacc4 hg4 _
        obtain ⟨A4, c4, e4, _, _⟩ := hacc4.sl.form
        generalize (List.map (fun y : UU => commitI p y.1) pre' ++ [commitI p (y1, y2)]).length = n4 at e4
        subst e4
        have HA4 := Lib.hid hacc4
        have HG4 := Lib.hid hg4
        have hB4 := HB3.out.kept HG4.out HNE.out
        have cB4 := hB4.cell
        have fB4 := hB4.frozen
        have HB4 := Lib.hid hB4
        clear hacc4 hg4 hB4
        refine hK _ _ ?_
        clear hK K
        try simp only [Act.put, List.setIfInBounds_toArray, List.set_cons_zero, List.set_cons_succ]
        refine wpAny_ready (rs := [8]) (by kernel_rfl) (by simp) ?_
        refine AllReady.cons (o := ({ dst := none, op := Op.store 29 (Operand.tmp 10) (Operand.tmp 30), type := 0, pos := "pedersen.go:41", after := #[{ on := 7, ground := Ground.data }, { on := 7, ground := Ground.chain }, { on := 0, ground := Ground.phase }, { on := 1, ground := Ground.phase }, { on := 2, ground := Ground.phase }, { on := 3, ground := Ground.phase }, { on := 4, ground := Ground.phase }, { on := 5, ground := Ground.phase }, { on := 6, ground := Ground.phase }, { on := 7, ground := Ground.phase }], guard := none } : Oper)) rfl (fun K hK => ?_) AllReady.nil
        go_simp
        refine hK _ _ ?_
        clear hK K
        try simp only [Act.put, List.setIfInBounds_toArray, List.set_cons_zero, List.set_cons_succ]
        refine wpAny_done (by kernel_rfl) ?_ _
        exact ⟨rfl, FIN w3 w4 A4 n4 c4 HG3.out HG4.out HA3.out HA4.out HB4.out⟩
      refine AllReady.cons (o := ({ dst := some 29, op := Op.buildSlice 29 1 #[(0, Operand.tmp 28)], type := 29, pos := "pedersen.go:41", after := #[{ on := 5, ground := Ground.data }], guard := none } : Oper)) rfl (fun K hK => ?_) AllReady.nil
      go_simp
      refine hK _ _ ?_
      clear hK K
      try simp only [Act.put, List.setIfInBounds_toArray, List.set_cons_zero, List.set_cons_succ]
      refine wpAny_ready (rs := [0]) (by kernel_rfl) (by simp) ?_
      refine AllReady.cons (o := ({ dst := some 23, op := Op.load 29 (Operand.tmp 10), type := 29, pos := "pedersen.go:41", after := #[], guard := none } : Oper)) rfl (fun K hK => ?_) AllReady.nil
      go_simp
      refine hK _ _ ?_
      clear hK K
      try simp only [Act.put, List.setIfInBounds_toArray, List.set_cons_zero, List.set_cons_succ]
      refine wpAny_ready (rs := [7]) (by kernel_rfl) (by simp) ?_
      refine AllReady.cons (o := ({ dst := some 30, op := Op.call { callee := Callee.builtin Builtin.append, args := #[Operand.tmp 23, Operand.tmp 29], argTypes := #[29, 29] }, type := 29, pos := "pedersen.go:41", after := #[{ on := 0, ground := Ground.data }, { on := 6, ground := Ground.data }, { on := 5, ground := Ground.chain }], guard := none } : Oper)) rfl (fun K hK => ?_) AllReady.nil
      refine step_push rfl (.tmp 23) (.tmp 29) rfl (E := encU) (y := commitI p (y1, y2)) el_u64 HA3.out rfl rfl ⟨rfl, HCU.out⟩ HLB.out HSZ.out HNX.out ?_
      intro v4 w4 hacc4 hg4 _
      obtain ⟨A4, c4, e4, _, _⟩ := hacc4.sl.form
      generalize (List.map (fun y : UU => commitI p y.1) pre' ++ [commitI p (y1, y2)]).length = n4 at e4
      subst e4
      have HA4 := Lib.hid hacc4
      have HG4 := Lib.hid hg4
      have hB4 := HB3.out.kept HG4.out HNE.out
      have cB4 := hB4.cell
      have fB4 := hB4.frozen
      have HB4 := Lib.hid hB4
      clear hacc4 hg4 hB4
      refine hK _ _ ?_
      clear hK K
      try simp only [Act.put, List.setIfInBounds_toArray, List.set_cons_zero, List.set_cons_succ]
      refine wpAny_ready (rs := [8]) (by kernel_rfl) (by simp) ?_
      refine AllReady.cons (o := ({ dst := none, op := Op.store 29 (Operand.tmp 10) (Operand.tmp 30), type := 0, pos := "pedersen.go:41", after := #[{ on := 7, ground := Ground.data }, { on := 7, ground := Ground.chain }, { on := 0, ground := Ground.phase }, { on := 1, ground := Ground.phase }, { on := 2, ground := Ground.phase }, { on := 3, ground := Ground.phase }, { on := 4, ground := Ground.phase }, { on := 5, ground := Ground.phase }, { on := 6, ground := Ground.phase }, { on := 7, ground := Ground.phase }], guard := none } : Oper)) rfl (fun K hK => ?_) AllReady.nil
      go_simp
      refine hK _ _ ?_
      clear hK K
      try simp only [Act.put, List.setIfInBounds_toArray, List.set_cons_zero, List.set_cons_succ]
      refine wpAny_done (by kernel_rfl) ?_ _
      exact ⟨rfl, FIN w3 w4 A4 n4 c4 HG3.out HG4.out HA3.out HA4.out HB4.out⟩
    case done2 =>
      rintro ys' W' hys ⟨⟨u, hbu, hau⟩, hBW, hKF, hbc, hbd⟩
      rw [map_val_commit p hys] at hau
      obtain ⟨A3, c3, e3, _, _⟩ := hau.sl.form
      rw [List.length_map] at e3
      subst e3
      obtain ⟨A5, c5, e5, _, _⟩ := hao.sl.form
      rw [List.length_map] at e5
      subst e5
      have hG := grown_of_below hBW
      have HG := Lib.hid hG
      have hbo' := hbo.kept hG (by simp)
      have HAO := Lib.hid (hao.kept hG)
      have HBO := Lib.hid hbo'
      have HLT := Lib.hid hao.lt
      have cO := hbo'.cell
      have cU := hbu.cell
      have hMN : w.heap.size + 4 ≤ W.heap.size := by have := hbb.lt; omega
      have HU : Hid (Sl encU (fun g => w.heap.size + 4 ≤ g ∧ some g ≠ (Value.slice A5 pre.length c5).ownBlock) W' (.slice A3 (zipU l1 l2).length c3) (comI p (l1, l2))) := Lib.hid (hau.sl.more (fun g _ hg => ⟨by omega, fun e => by have := (HLT.out g e.symm).2; omega⟩))
      have HLB : Hid (((pre.map fun x : SS encU X w small1 => comI p x.lists).length + 1) * 24 ≤ 140737488355328) := Lib.hid (by rw [List.length_map]; have := HPL.out; omega)
      have HSZ : Hid (w.heap.size + 4 ≤ W'.heap.size) := Lib.hid (by have := hG.size; omega)
      have HNX : Hid (∀ g, W'.heap.size ≤ g → w.heap.size + 4 ≤ g) := Lib.hid (fun g hg => Nat.le_trans HSZ.out hg)
      have HKF := Lib.hid hKF
      have HBW := Lib.hid hBW
      have HNE : Hid (some (w.heap.size + 1) ≠ (Value.slice A5 pre.length c5).ownBlock) := Lib.hid (fun e => by have := (HAO.out.lt _ e.symm).1; omega)
      clear hau hao hbo' hBW hKF hbc hbd
      gi_wp2_with (gi_at_builtin; refine wpListIn_push rfl (.tmp 31) (.tmp 33) rfl (E := encS encU) (y := comI p (l1, l2)) el_nums HAO.out rfl rfl ⟨_, rfl, HU.out⟩ HLB.out HSZ.out HNX.out ?_)
      intro v4 w4 hacc4 hg4 _
      obtain ⟨A4, c4, e4, _, _⟩ := hacc4.sl.form
      generalize (List.map (fun x : SS encU X w small1 => comI p x.lists) pre ++ [comI p (l1, l2)]).length = n4 at e4
      subst e4
      have HA4 := Lib.hid hacc4
      have HG4 := Lib.hid hg4
      have hB4 := HBO.out.kept HG4.out HNE.out
      have cB4 := hB4.cell
      have fB4 := hB4.frozen
      have HB4 := Lib.hid hB4
      clear hacc4 hg4 hB4
      gi_wp2
      have hN2 : ∀ k, k < w.heap.size + 4 → some k ≠ (Value.slice A5 pre.length c5).ownBlock := fun k hk e => by have := (HAO.out.lt k e.symm).1; omega
      have hN3 : ∀ k, (Value.slice A5 pre.length c5).ownBlock = some k → w.heap.size + 4 ≤ k := fun k e => (HAO.out.lt k e).1
      have hK5 : KeepsFrom W0.heap.size W (w4.setCell ⟨w.heap.size + 1, 0, none⟩ (.slice A4 n4 c4)) := HKF.out.trans ((HAO.out.keeps HG4.out).trans (KeepsOthers.setCell _ _ _) |>.from _)
      have b1 := ((hba.kept HG.out (by simp)).kept HG4.out (hN2 _ (by omega))).other (B' := w.heap.size + 1) (by omega) (.slice A4 n4 c4)
      have b2 := ((hbb.kept HG.out (by simp)).kept HG4.out (hN2 _ (by omega))).other (B' := w.heap.size + 1) (by omega) (.slice A4 n4 c4)
      have hS3 : W.heap.size ≤ W'.heap.size := HG.out.size
      refine ⟨hK5, ⟨(((Below.refl _ W).grown HG.out (by omega) (by simp)).grown HG4.out (by omega) (fun k e => by have := hN3 k e; omega)).setCell (p := ⟨w.heap.size + 1, 0, none⟩) (by simp) _, Eq.trans b1 (Eq.symm hba), Eq.trans b2 (Eq.symm hbb)⟩, ⟨_, HB4.out.set _, ?_⟩, ?_, ((hbl.grown HG.out (by omega) (by simp)).grown HG4.out (by omega) (fun k e => by have := hN3 k e; omega)).setCell (p := ⟨w.heap.size + 1, 0, none⟩) (by simp) _, b1, b2⟩
      · rw [List.map_append]
        exact HA4.out.keep (grownBy_setCell' w4 (w.heap.size + 1) _) (fun g hg e => by injection e with e; omega)
      · exact ((hbp.grown HG.out (by simp)).grown HG4.out (hN2 _ (by omega))).grown (grownBy_setCell' w4 (w.heap.size + 1) _) (fun e => by injection e with e; omega)
    case stop2 =>
      rintro c pre' W' _ h
      exact h.elim
  case done =>
    rintro D zs W hD hzs ⟨⟨v, hbo, hao⟩, hbp, hbl, hba, hbb⟩ hK
    have cO := hbo.cell
    rw [map_lists_com p hzs] at hao
    obtain ⟨A3, c3, e3, _, _⟩ := hao.sl.form
    rw [List.length_map] at e3
    subst e3
    gi_wp2
    refine ⟨by simp, .inl ⟨_, _, rfl, run_takeDeferred hK, ?_⟩⟩
    refine ⟨_, results_tmp rfl _ _ _, .slice A3 (zipS f r).length c3, rfl, ?_, ?_⟩
    · exact (hao.sl.keepc (grownBy_putObj' W D _) (fun r e => ⟨.deferred (some []), by cases e; exact hK, rfl⟩)).more (Y := fun g => w.heap.size ≤ g) (fun g _ h => Nat.le_trans (Nat.le_add_right _ 4) h)
    · exact grown_of_below (hbl.trans (belowK_b (w := w) (Nat.le_refl _) W D _ _ (by omega) hK rfl rfl))
  case stop =>
    rintro D c pre W _ _ h _
    exact h.elim
end Go.Proofs.YthicondcjeipfaaGreatDoor

namespace Go.Proofs.YthicondcjeipfaaGreatDoor
open Go Go.RowKit Go.Shelf

attribute [local go_sem] Oper.semAt_some
def matI (p : Par) (f r : List (List (List Int))) : List (List (List Int)) := (zipS f r).map fun x => comsI p x.1 x.2
abbrev small2 (m : List (List Int)) : Prop := m.length ≤ 100000 ∧ ∀ c ∈ m, c.length ≤ 100000
theorem map_lists_mat (p : Par) {X : Nat → Prop} {w₀ : World} {G : List (List Int) → Prop} {ys : List (SS (encS encU) X w₀ G)} {z : List (List (List Int) × List (List Int))} (h : ys.map SS.lists = z) : ys.map (fun y => comsI p y.lists.1 y.lists.2) = z.map (fun x => comsI p x.1 x.2) := by
  rw [← h, List.map_map]
  rfl
set_option maxRecDepth 100000 in
set_option maxHeartbeats 4000000 in
theorem matrix_in (n : Nat) (hn : 6 ≤ n) (p : Par) (vf vr : Value) (f r : List (List (List Int))) (X : Nat → Prop) (w : World) (hp : p.ok) (hf : Sl (encS (encS encU)) X w vf f) (hr : Sl (encS (encS encU)) X w vr r) (hb1 : f.length ≤ 100000) (hb2 : r.length ≤ 100000) (hb3 : ∀ c ∈ f, small2 c) (hb4 : ∀ c ∈ r, small2 c) :
    CallsIn Fence.wide n Tryz.prog 28 #[p.v, vf, vr] w (Gives (encS (encS encU)) (fun g => w.heap.size ≤ g) w (matI p f r)) := by
  have h1 : 1 ≤ n := by omega
  have HF := Lib.hid hf
  have HR := Lib.hid hr
  have HP := Lib.hid hp
  obtain ⟨A1, c1, rfl, _, _⟩ := hf.form
  obtain ⟨A2, c2, rfl, _, _⟩ := hr.form
  clear hf hr hp
  have HZL : Hid ((zipS f r).length ≤ 100000) := Lib.hid (by simp [zipS]; omega)
  refine callsIn_of_wp_marks Tryz.func28 rfl trivial ?_ rfl
  simp only [Tryz.ntmps28, List.size_toArray, List.length_cons, List.length_nil, Nat.reduceAdd, Nat.reduceSub, Array.replicate_succ, Array.replicate_zero, List.push_toArray, List.append_toArray, List.nil_append, List.cons_append]
  gi_wp2_with (refine ⟨trivial, ?_⟩; refine (callsIn_wide.2 (pairsM_any _ _ _ _ _ _ _)).mono ?_; rintro e w' ⟨rfl, rfl⟩)
  have hs1 : (w.alloc (.cells p.cells 24)).heap.size = w.heap.size + 1 := by simp
  have hs2 : ((w.alloc (.cells p.cells 24)).alloc (.cells #[.slice none 0 0] 30)).heap.size = w.heap.size + 1 + 1 := by simp
  have hs3 : (((w.alloc (.cells p.cells 24)).alloc (.cells #[.slice none 0 0] 30)).alloc (.cells #[.slice A1 f.length c1] 30)).heap.size = w.heap.size + 1 + 1 + 1 := by simp
  have bP : Bk _ w.heap.size 24 p.cells := (((Bk.new w 24 p.cells).alloc (.cells #[.slice none 0 0] 30)).alloc (.cells #[.slice A1 f.length c1] 30)).alloc (.cells #[.slice A2 r.length c2] 30)
  have bO := ((Boxed.new (w.alloc (.cells p.cells 24)) 30 (.slice none 0 0)).alloc (.cells #[.slice A1 f.length c1] 30)).alloc (.cells #[.slice A2 r.length c2] 30)
  have bA := (Boxed.new ((w.alloc (.cells p.cells 24)).alloc (.cells #[.slice none 0 0] 30)) 30 (.slice A1 f.length c1)).alloc (.cells #[.slice A2 r.length c2] 30)
  have bB := Boxed.new (((w.alloc (.cells p.cells 24)).alloc (.cells #[.slice none 0 0] 30)).alloc (.cells #[.slice A1 f.length c1] 30)) 30 (.slice A2 r.length c2)
  rw [hs1] at bO
  rw [hs2] at bA
  rw [hs3] at bB
  have hB0 : Below w.heap.size w ((((w.alloc (.cells p.cells 24)).alloc (.cells #[.slice none 0 0] 30)).alloc (.cells #[.slice A1 f.length c1] 30)).alloc (.cells #[.slice A2 r.length c2] 30)) := below_grown (((World.grownBy_alloc w _ none).trans (World.grownBy_alloc _ _ none)).trans ((World.grownBy_alloc _ _ none).trans (World.grownBy_alloc _ _ none)))
  have hsz : ((((w.alloc (.cells p.cells 24)).alloc (.cells #[.slice none 0 0] 30)).alloc (.cells #[.slice A1 f.length c1] 30)).alloc (.cells #[.slice A2 r.length c2] 30)).heap.size = w.heap.size + 4 := by simp
  obtain ⟨W0, hW0⟩ : ∃ W0, (((w.alloc (.cells p.cells 24)).alloc (.cells #[.slice none 0 0] 30)).alloc (.cells #[.slice A1 f.length c1] 30)).alloc (.cells #[.slice A2 r.length c2] 30) = W0 := ⟨_, rfl⟩
  rw [hW0] at bP bO bA bB hB0 hsz ⊢
  clear hW0 hs1 hs2 hs3
  have HPG : Hid (∀ c ∈ f, small2 c) := Lib.hid hb3
  refine wpIn_rangeFunc_ownH rfl h1 (gf := 91) (lb := #[.pointer (some ⟨w.heap.size + 1 + 1, 0, none⟩), .pointer (some ⟨w.heap.size + 1 + 1 + 1, 0, none⟩)]) rfl trivial (enters_of Tryz.func91 (by kernel_rfl) rfl)
    (pairsM_stops (n - 1) (by omega) (w.heap.size + 1 + 1) (w.heap.size + 1 + 1 + 1) _ _ f r X w W0 small2 ⟨by simp, by simp⟩ hb3 hb4 hB0 bA bB HF.out HR.out) KpAB.trans (KpAB.b (by omega) (by omega) (by omega)) (Below.refl _ _) (fun _ => rfl)
    (fun pre W => (∃ v, Boxed W (w.heap.size + 1) 30 v ∧ Acc (encS (encS encU)) (w.heap.size + 4) 47 (fun g => w.heap.size + 4 ≤ g) W v (pre.map fun x => comsI p x.lists.1 x.lists.2)) ∧ Bk W w.heap.size 24 p.cells ∧ Below w.heap.size w W ∧ Boxed W (w.heap.size + 1 + 1) 30 (.slice A1 f.length c1) ∧ Boxed W (w.heap.size + 1 + 1 + 1) 30 (.slice A2 r.length c2))
    (fun _ _ _ => False)
    (fun pre X Y row hs hg hrow => by
      obtain ⟨⟨v, hb, ha⟩, hk, hB, hb2, hb3⟩ := hs
      have hr' := fun r e => (hrow r e).2
      exact ⟨⟨v, hb.kept hg (boxNe hb hr'), ha.keepc hg hr'⟩, hk.grown hg (cell_ne (hk.cell 0) hr'), hB.grown hg hB.size (fun k e => by have := (hrow k e).1; omega), hb2.kept hg (boxNe hb2 hr'), hb3.kept hg (boxNe hb3 hr')⟩)
    (fun _ _ _ _ _ hs _ _ => hs)
    ⟨⟨_, bO, Acc.nil _ _ _ _ _⟩, bP, hB0, bA, bB⟩
    (fun x a' _ => a' = { tmps := #[p.v, .slice A1 f.length c1, .slice A2 r.length c2, .pointer (some ⟨w.heap.size, 0, none⟩), undef, undef, .slice none 0 0, .pointer (some ⟨w.heap.size + 1, 0, none⟩), x.1.1.1, x.1.2.1, .slice A1 f.length c1, .slice A2 r.length c2, .func (.func 91) #[] #[.pointer (some ⟨w.heap.size + 1 + 1, 0, none⟩), .pointer (some ⟨w.heap.size + 1 + 1 + 1, 0, none⟩)], x.1.1.1, x.1.2.1, undef, undef, undef, undef, undef, undef, undef, undef], defers := [] })
    (fun _ _ _ _ _ _ hs _ _ => hs)
    ?assign ?body ?done ?stop
  case assign =>
    rintro l pre x W K hi hK
    gi_wp2
    exact hK _ _ (KeepsFrom.refl _ _) (KpAB.refl _ _ _ _) hi rfl
  case body =>
    rintro lq pre ⟨⟨⟨v1, l1⟩, ⟨v2, l2⟩⟩, ⟨hv1, hg1⟩, ⟨hv2, hg2⟩⟩ a' W hl _ ⟨⟨v, hbo, hao⟩, hbp, hbl, hba, hbb⟩ rfl hlt
    have k1 : Sl (encS encU) X w v1 l1 := hv1
    have k2 : Sl (encS encU) X w v2 l2 := hv2
    have k3 : l1.length ≤ 100000 ∧ ∀ c ∈ l1, c.length ≤ 100000 := hg1
    have k4 : l2.length ≤ 100000 ∧ ∀ c ∈ l2, c.length ≤ 100000 := hg2
    have hNW := hbl.size
    have HCOM : Hid (∀ w', W.grownBy w' none → Calls Tryz.prog 43 #[p.v, v1, v2] w' (Gives (encS encU) (fun g => w'.heap.size ≤ g) w' (comsI p l1 l2))) := Lib.hid (fun w' hw => callsIn_wide.1 (coms_in 6 (Nat.le_refl _) p v1 v2 l1 l2 X w' HP.out (k1.kept ((grown_of_below hbl).trans hw)) (k2.kept ((grown_of_below hbl).trans hw)) k3.1 k4.1 k3.2 k4.2))
    obtain ⟨D1, d1, rfl, _, _⟩ := k1.form
    obtain ⟨D2, d2, rfl, _, _⟩ := k2.form
    have HPL : Hid (pre.length < 100000) := Lib.hid (Nat.lt_of_lt_of_le hlt HZL.out)
    obtain ⟨A5, c5, e5, _, _⟩ := hao.sl.form
    rw [List.length_map] at e5
    subst e5
    have HAO := Lib.hid hao
    have HDR : Hid (W.grownBy W.drew none) := Lib.hid (grown_drewN' W 1)
    have HBO := Lib.hid hbo
    have hltO : w.heap.size + 1 < W.heap.size := hbo.lt
    have HS0 : Hid (w.heap.size + 4 ≤ W.heap.size) := Lib.hid (by have := hbb.lt; omega)
    have hpr := hbp.prule
    have cO := hbo.cell
    have HLB : Hid (((pre.map fun x : SS (encS encU) X w small2 => comsI p x.lists.1 x.lists.2).length + 1) * 24 ≤ 140737488355328) := Lib.hid (by rw [List.length_map]; have := HPL.out; omega)
    have FIN : ∀ (w3 w4 : World) (A4 : Option Addr) (n4 c4 : Nat), W.grownBy w3 none → w3.grownBy w4 (Value.slice A5 pre.length c5).ownBlock → Acc (encS (encS encU)) (w.heap.size + 4) 47 (fun g => w.heap.size + 4 ≤ g) w3 (.slice A5 pre.length c5) (pre.map fun x : SS (encS encU) X w small2 => comsI p x.lists.1 x.lists.2) → Acc (encS (encS encU)) (w.heap.size + 4) 47 (fun g => w.heap.size + 4 ≤ g) w4 (.slice A4 n4 c4) ((pre.map fun x : SS (encS encU) X w small2 => comsI p x.lists.1 x.lists.2) ++ [comsI p l1 l2]) → Boxed w4 (w.heap.size + 1) 30 (.slice A5 pre.length c5) → (fun w5 : World => KeepsFrom W0.heap.size W w5 ∧ KpAB w.heap.size (w.heap.size + 1 + 1) (w.heap.size + 1 + 1 + 1) W w5 ∧ (∃ u, Boxed w5 (w.heap.size + 1) 30 u ∧ Acc (encS (encS encU)) (w.heap.size + 4) 47 (fun g => w.heap.size + 4 ≤ g) w5 u ((pre ++ [(⟨((.slice D1 l1.length d1, l1), (.slice D2 l2.length d2, l2)), ⟨hv1, hg1⟩, ⟨hv2, hg2⟩⟩ : SS (encS encU) X w small2)]).map fun x => comsI p x.lists.1 x.lists.2)) ∧ Bk w5 w.heap.size 24 p.cells ∧ Below w.heap.size w w5 ∧ Boxed w5 (w.heap.size + 1 + 1) 30 (.slice A1 f.length c1) ∧ Boxed w5 (w.heap.size + 1 + 1 + 1) 30 (.slice A2 r.length c2)) (w4.setCell ⟨w.heap.size + 1, 0, none⟩ (.slice A4 n4 c4)) := by
      intro w3 w4 A4 n4 c4 hG3 hG4 hA3 hA4 hB4
      have hN2 : ∀ k, k < w.heap.size + 4 → some k ≠ (Value.slice A5 pre.length c5).ownBlock := fun k hk e => by have := (hA3.lt k e.symm).1; omega
      have hN3 : ∀ k, (Value.slice A5 pre.length c5).ownBlock = some k → w.heap.size + 4 ≤ k := fun k e => (hA3.lt k e).1
      have hK5 : KeepsOthers W (w4.setCell ⟨w.heap.size + 1, 0, none⟩ (.slice A4 n4 c4)) := ((keeps_none hG3).trans (hA3.keeps hG4)).trans (KeepsOthers.setCell _ _ _)
      have b1 := ((hba.kept hG3 (by simp)).kept hG4 (hN2 _ (by omega))).other (B' := w.heap.size + 1) (by omega) (.slice A4 n4 c4)
      have b2 := ((hbb.kept hG3 (by simp)).kept hG4 (hN2 _ (by omega))).other (B' := w.heap.size + 1) (by omega) (.slice A4 n4 c4)
      have hS3 : W.heap.size ≤ w3.heap.size := hG3.size
      refine ⟨hK5.from _, ⟨(((Below.refl _ W).grown hG3 (by omega) (by simp)).grown hG4 (by omega) (fun k e => by have := hN3 k e; omega)).setCell (p := ⟨w.heap.size + 1, 0, none⟩) (by simp) _, Eq.trans b1 (Eq.symm hba), Eq.trans b2 (Eq.symm hbb)⟩, ⟨_, hB4.set _, ?_⟩, ?_, ((hbl.grown hG3 (by omega) (by simp)).grown hG4 (by omega) (fun k e => by have := hN3 k e; omega)).setCell (p := ⟨w.heap.size + 1, 0, none⟩) (by simp) _, b1, b2⟩
      · rw [List.map_append]
        exact hA4.keep (grownBy_setCell' w4 (w.heap.size + 1) _) (fun g hg e => by injection e with e; omega)
      · exact ((hbp.grown hG3 (by simp)).grown hG4 (hN2 _ (by omega))).grown (grownBy_setCell' w4 (w.heap.size + 1) _) (fun e => by injection e with e; omega)
    clear k1 k2 k3 k4 hlt
    dsimp only
    gi_wp2
    refine wpIn_round_any (l0 := lq) (R := fun _ w5 => KeepsFrom W0.heap.size W w5 ∧ KpAB w.heap.size (w.heap.size + 1 + 1) (w.heap.size + 1 + 1 + 1) W w5 ∧ (∃ u, Boxed w5 (w.heap.size + 1) 30 u ∧ Acc (encS (encS encU)) (w.heap.size + 4) 47 (fun g => w.heap.size + 4 ≤ g) w5 u ((pre ++ [(⟨((.slice D1 l1.length d1, l1), (.slice D2 l2.length d2, l2)), ⟨hv1, hg1⟩, ⟨hv2, hg2⟩⟩ : SS (encS encU) X w small2)]).map fun x => comsI p x.lists.1 x.lists.2)) ∧ Bk w5 w.heap.size 24 p.cells ∧ Below w.heap.size w w5 ∧ Boxed w5 (w.heap.size + 1 + 1) 30 (.slice A1 f.length c1) ∧ Boxed w5 (w.heap.size + 1 + 1 + 1) 30 (.slice A2 r.length c2)) (by kernel_rfl) (by kernel_rfl) (fun a w h => h) ?_
    refine wpAny_take (i := 2) (oi := ({ dst := some 17, op := Op.move (Operand.tmp 8), type := 47, pos := "pedersen.go:80", after := #[], guard := none } : Oper)) (v := ?vq1) rfl (by kernel_rfl) (by kernel_rfl) (by kernel_rfl) (fun _ _ _ h => h) (Or.inl ⟨by rfl, ?hq1⟩) ?rq1
    case hq1 => (intro w; go_simp; first | done | with_reducible rfl)
    try simp only [Act.put, List.setIfInBounds_toArray, List.set_cons_zero, List.set_cons_succ]
    refine wpAny_take (i := 3) (oi := ({ dst := some 18, op := Op.move (Operand.tmp 9), type := 47, pos := "pedersen.go:80", after := #[], guard := none } : Oper)) (v := ?vq2) rfl (by kernel_rfl) (by kernel_rfl) (by kernel_rfl) (fun _ _ _ h => h) (Or.inl ⟨by rfl, ?hq2⟩) ?rq2
    case hq2 => (intro w; go_simp; first | done | with_reducible rfl)
    try simp only [Act.put, List.setIfInBounds_toArray, List.set_cons_zero, List.set_cons_succ]
    refine wpAny_ready (rs := [0, 1]) (by kernel_rfl) (by simp) ?_
    refine AllReady.cons (o := ({ dst := some 15, op := Op.load 30 (Operand.tmp 7), type := 30, pos := "pedersen.go:80", after := #[], guard := none } : Oper)) rfl (fun K hK => ?_) ?_
    · skip
      go_simp
      refine hK _ _ ?_
      clear hK K
      try simp only [Act.put, List.setIfInBounds_toArray, List.set_cons_zero, List.set_cons_succ]
      refine wpAny_ready (rs := [1]) (by kernel_rfl) (by simp) ?_
      refine AllReady.cons (o := ({ dst := some 16, op := Op.load 24 (Operand.tmp 3), type := 24, pos := "pedersen.go:80", after := #[], guard := none } : Oper)) rfl (fun K hK => ?_) AllReady.nil
      go_simp
      refine hK _ _ ?_
      clear hK K
      try simp only [Act.put, List.setIfInBounds_toArray, List.set_cons_zero, List.set_cons_succ]
      refine wpAny_ready (rs := [4]) (by kernel_rfl) (by simp) ?_
      refine AllReady.cons (o := ({ dst := some 19, op := Op.call { callee := Callee.value (Operand.func 43), args := #[Operand.tmp 16, Operand.tmp 17, Operand.tmp 18], argTypes := #[24, 47, 47] }, type := 47, pos := "pedersen.go:80", after := #[{ on := 1, ground := Ground.data }, { on := 2, ground := Ground.data }, { on := 3, ground := Ground.data }], guard := none } : Oper)) rfl (fun K hK => ?_) AllReady.nil
      go_simp
      (go_at_call 43; (with_reducible refine (HCOM.out _ HDR.out).mono ?_); rintro e w3 ⟨v3, rfl, hs3, hg3⟩)
      obtain ⟨A6, c6, e6, _, _⟩ := hs3.form
      generalize (comsI p l1 l2).length = n6 at e6
      subst e6
      have HG3 : Hid (W.grownBy w3 none) := Lib.hid ((grown_drewN' W 1).trans hg3)
      have HA3 := Lib.hid (HAO.out.kept HG3.out)
      have HB3 := Lib.hid (HBO.out.kept HG3.out (by simp))
      have HSZ : Hid (w.heap.size + 4 ≤ w3.heap.size) := Lib.hid (Nat.le_trans HS0.out HG3.out.size)
      have HNX : Hid (∀ g, w3.heap.size ≤ g → w.heap.size + 4 ≤ g) := Lib.hid (fun g hg => Nat.le_trans HSZ.out hg)
      have HNE : Hid (some (w.heap.size + 1) ≠ (Value.slice A5 pre.length c5).ownBlock) := Lib.hid (fun e => by have := (HA3.out.lt _ e.symm).1; omega)
      have HU : Hid (Sl (encS encU) (fun g => w.heap.size + 4 ≤ g ∧ some g ≠ (Value.slice A5 pre.length c5).ownBlock) w3 (.slice A6 n6 c6) (comsI p l1 l2)) := Lib.hid (hs3.more (fun g _ hg => ⟨Nat.le_trans HS0.out hg, fun e => by have h1 := (HAO.out.lt g e.symm).2; have h2 : W.heap.size ≤ g := hg; omega⟩))
      have hc3 := HB3.out.cell
      have hc3a := (HB3.out.alloc (.cells #[.slice A6 n6 c6] 47)).cell
      clear hg3 hs3
      dsimp only
      refine hK _ _ ?_
      clear hK K
      try simp only [Act.put, List.setIfInBounds_toArray, List.set_cons_zero, List.set_cons_succ]
      refine wpAny_ready (rs := [5]) (by kernel_rfl) (by simp) ?_
      refine AllReady.cons (o := ({ dst := some 20, op := Op.buildSlice 30 1 #[(0, Operand.tmp 19)], type := 30, pos := "pedersen.go:80", after := #[{ on := 4, ground := Ground.data }], guard := none } : Oper)) rfl (fun K hK => ?_) AllReady.nil
      go_simp
      refine hK _ _ ?_
      clear hK K
      try simp only [Act.put, List.setIfInBounds_toArray, List.set_cons_zero, List.set_cons_succ]
      refine wpAny_ready (rs := [6]) (by kernel_rfl) (by simp) ?_
      refine AllReady.cons (o := ({ dst := some 21, op := Op.call { callee := Callee.builtin Builtin.append, args := #[Operand.tmp 15, Operand.tmp 20], argTypes := #[30, 30] }, type := 30, pos := "pedersen.go:80", after := #[{ on := 0, ground := Ground.data }, { on := 5, ground := Ground.data }, { on := 4, ground := Ground.chain }], guard := none } : Oper)) rfl (fun K hK => ?_) AllReady.nil
      refine step_push rfl (.tmp 15) (.tmp 20) rfl (E := encS (encS encU)) (y := comsI p l1 l2) el_rows HA3.out rfl rfl ⟨_, rfl, HU.out⟩ HLB.out HSZ.out HNX.out ?_
      intro v4 w4 hacc4 hg4 _
      obtain ⟨A4, c4, e4, _, _⟩ := hacc4.sl.form
      generalize (List.map (fun x : SS (encS encU) X w small2 => comsI p x.lists.1 x.lists.2) pre ++ [comsI p l1 l2]).length = n4 at e4
      subst e4
      have HA4 := Lib.hid hacc4
      have HG4 := Lib.hid hg4
      have hB4 := HB3.out.kept HG4.out HNE.out
      have cB4 := hB4.cell
      have fB4 := hB4.frozen
      have HB4 := Lib.hid hB4
      clear hacc4 hg4 hB4
      refine hK _ _ ?_
      clear hK K
      try simp only [Act.put, List.setIfInBounds_toArray, List.set_cons_zero, List.set_cons_succ]
      refine wpAny_ready (rs := [7]) (by kernel_rfl) (by simp) ?_
      refine AllReady.cons (o := ({ dst := none, op := Op.store 30 (Operand.tmp 7) (Operand.tmp 21), type := 0, pos := "pedersen.go:80", after := #[{ on := 6, ground := Ground.data }, { on := 6, ground := Ground.chain }, { on := 0, ground := Ground.phase }, { on := 1, ground := Ground.phase }, { on := 2, ground := Ground.phase }, { on := 3, ground := Ground.phase }, { on := 4, ground := Ground.phase }, { on := 5, ground := Ground.phase }, { on := 6, ground := Ground.phase }], guard := none } : Oper)) rfl (fun K hK => ?_) AllReady.nil
      go_simp
      refine hK _ _ ?_
      clear hK K
      try simp only [Act.put, List.setIfInBounds_toArray, List.set_cons_zero, List.set_cons_succ]
      refine wpAny_done (by kernel_rfl) ?_ _
      exact ⟨rfl, FIN w3 w4 A4 n4 c4 HG3.out HG4.out HA3.out HA4.out HB4.out⟩
    refine AllReady.cons (o := ({ dst := some 16, op := Op.load 24 (Operand.tmp 3), type := 24, pos := "pedersen.go:80", after := #[], guard := none } : Oper)) rfl (fun K hK => ?_) AllReady.nil
    go_simp
    refine hK _ _ ?_
    clear hK K
    try simp only [Act.put, List.setIfInBounds_toArray, List.set_cons_zero, List.set_cons_succ]
    refine wpAny_ready (rs := [0, 4]) (by kernel_rfl) (by simp) ?_
    refine AllReady.cons (o := ({ dst := some 15, op := Op.load 30 (Operand.tmp 7), type := 30, pos := "pedersen.go:80", after := #[], guard := none } : Oper)) rfl (fun K hK => ?_) ?_
    · skip
      go_simp
      refine hK _ _ ?_
      clear hK K
      try simp only [Act.put, List.setIfInBounds_toArray, List.set_cons_zero, List.set_cons_succ]
      refine wpAny_ready (rs := [4]) (by kernel_rfl) (by simp) ?_
      refine AllReady.cons (o := ({ dst := some 19, op := Op.call { callee := Callee.value (Operand.func 43), args := #[Operand.tmp 16, Operand.tmp 17, Operand.tmp 18], argTypes := #[24, 47, 47] }, type := 47, pos := "pedersen.go:80", after := #[{ on := 1, ground := Ground.data }, { on := 2, ground := Ground.data }, { on := 3, ground := Ground.data }], guard := none } : Oper)) rfl (fun K hK => ?_) AllReady.nil
      go_simp
      (go_at_call 43; (with_reducible refine (HCOM.out _ HDR.out).mono ?_); rintro e w3 ⟨v3, rfl, hs3, hg3⟩)
      obtain ⟨A6, c6, e6, _, _⟩ := hs3.form
      generalize (comsI p l1 l2).length = n6 at e6
      subst e6
      have HG3 : Hid (W.grownBy w3 none) := Lib.hid ((grown_drewN' W 1).trans hg3)
      have HA3 := Lib.hid (HAO.out.kept HG3.out)
      have HB3 := Lib.hid (HBO.out.kept HG3.out (by simp))
      have HSZ : Hid (w.heap.size + 4 ≤ w3.heap.size) := Lib.hid (Nat.le_trans HS0.out HG3.out.size)
      have HNX : Hid (∀ g, w3.heap.size ≤ g → w.heap.size + 4 ≤ g) := Lib.hid (fun g hg => Nat.le_trans HSZ.out hg)
      have HNE : Hid (some (w.heap.size + 1) ≠ (Value.slice A5 pre.length c5).ownBlock) := Lib.hid (fun e => by have := (HA3.out.lt _ e.symm).1; omega)
      have HU : Hid (Sl (encS encU) (fun g => w.heap.size + 4 ≤ g ∧ some g ≠ (Value.slice A5 pre.length c5).ownBlock) w3 (.slice A6 n6 c6) (comsI p l1 l2)) := Lib.hid (hs3.more (fun g _ hg => ⟨Nat.le_trans HS0.out hg, fun e => by have h1 := (HAO.out.lt g e.symm).2; have h2 : W.heap.size ≤ g := hg; omega⟩))
      have hc3 := HB3.out.cell
      have hc3a := (HB3.out.alloc (.cells #[.slice A6 n6 c6] 47)).cell
      clear hg3 hs3
      dsimp only
      refine hK _ _ ?_
      clear hK K
      try simp only [Act.put, List.setIfInBounds_toArray, List.set_cons_zero, List.set_cons_succ]
      refine wpAny_ready (rs := [5]) (by kernel_rfl) (by simp) ?_
      refine AllReady.cons (o := ({ dst := some 20, op := Op.buildSlice 30 1 #[(0, Operand.tmp 19)], type := 30, pos := "pedersen.go:80", after := #[{ on := 4, ground := Ground.data }], guard := none } : Oper)) rfl (fun K hK => ?_) AllReady.nil
      go_simp
      refine hK _ _ ?_
      clear hK K
      try simp only [Act.put, List.setIfInBounds_toArray, List.set_cons_zero, List.set_cons_succ]
      refine wpAny_ready (rs := [6]) (by kernel_rfl) (by simp) ?_
      refine AllReady.cons (o := ({ dst := some 21, op := Op.call { callee := Callee.builtin Builtin.append, args := #[Operand.tmp 15, Operand.tmp 20], argTypes := #[30, 30] }, type := 30, pos := "pedersen.go:80", after := #[{ on := 0, ground := Ground.data }, { on := 5, ground := Ground.data }, { on := 4, ground := Ground.chain }], guard := none } : Oper)) rfl (fun K hK => ?_) AllReady.nil
      refine step_push rfl (.tmp 15) (.tmp 20) rfl (E := encS (encS encU)) (y := comsI p l1 l2) el_rows HA3.out rfl rfl ⟨_, rfl, HU.out⟩ HLB.out HSZ.out HNX.out ?_
      intro v4 w4 hacc4 hg4 _
      obtain ⟨A4, c4, e4, _, _⟩ := hacc4.sl.form
      generalize (List.map (fun x : SS (encS encU) X w small2 => comsI p x.lists.1 x.lists.2) pre ++ [comsI p l1 l2]).length = n4 at e4
      subst e4
      have HA4 := Lib.hid hacc4
      have HG4 := Lib.hid hg4
      have hB4 := HB3.out.kept HG4.out HNE.out
      have cB4 := hB4.cell
      have fB4 := hB4.frozen
      have HB4 := Lib.hid hB4
      clear hacc4 hg4 hB4
      refine hK _ _ ?_
      clear hK K
      try simp only [Act.put, List.setIfInBounds_toArray, List.set_cons_zero, List.set_cons_succ]
      refine wpAny_ready (rs := [7]) (by kernel_rfl) (by simp) ?_
      refine AllReady.cons (o := ({ dst := none, op := Op.store 30 (Operand.tmp 7) (Operand.tmp 21), type := 0, pos := "pedersen.go:80", after := #[{ on := 6, ground := Ground.data }, { on := 6, ground := Ground.chain }, { on := 0, ground := Ground.phase }, { on := 1, ground := Ground.phase }, { on := 2, ground := Ground.phase }, { on := 3, ground := Ground.phase }, { on := 4, ground := Ground.phase }, { on := 5, ground := Ground.phase }, { on := 6, ground := Ground.phase }], guard := none } : Oper)) rfl (fun K hK => ?_) AllReady.nil
      go_simp
      refine hK _ _ ?_
      clear hK K
      try simp only [Act.put, List.setIfInBounds_toArray, List.set_cons_zero, List.set_cons_succ]
      refine wpAny_done (by kernel_rfl) ?_ _
      exact ⟨rfl, FIN w3 w4 A4 n4 c4 HG3.out HG4.out HA3.out HA4.out HB4.out⟩
    refine AllReady.cons (o := ({ dst := some 19, op := Op.call { callee := Callee.value (Operand.func 43), args := #[Operand.tmp 16, Operand.tmp 17, Operand.tmp 18], argTypes := #[24, 47, 47] }, type := 47, pos := "pedersen.go:80", after := #[{ on := 1, ground := Ground.data }, { on := 2, ground := Ground.data }, { on := 3, ground := Ground.data }], guard := none } : Oper)) rfl (fun K hK => ?_) AllReady.nil
    go_simp
    (go_at_call 43; (with_reducible refine (HCOM.out _ HDR.out).mono ?_); rintro e w3 ⟨v3, rfl, hs3, hg3⟩)
    obtain ⟨A6, c6, e6, _, _⟩ := hs3.form
    generalize (comsI p l1 l2).length = n6 at e6
    subst e6
    have HG3 : Hid (W.grownBy w3 none) := Lib.hid ((grown_drewN' W 1).trans hg3)
    have HA3 := Lib.hid (HAO.out.kept HG3.out)
    have HB3 := Lib.hid (HBO.out.kept HG3.out (by simp))
    have HSZ : Hid (w.heap.size + 4 ≤ w3.heap.size) := Lib.hid (Nat.le_trans HS0.out HG3.out.size)
    have HNX : Hid (∀ g, w3.heap.size ≤ g → w.heap.size + 4 ≤ g) := Lib.hid (fun g hg => Nat.le_trans HSZ.out hg)
    have HNE : Hid (some (w.heap.size + 1) ≠ (Value.slice A5 pre.length c5).ownBlock) := Lib.hid (fun e => by have := (HA3.out.lt _ e.symm).1; omega)
    have HU : Hid (Sl (encS encU) (fun g => w.heap.size + 4 ≤ g ∧ some g ≠ (Value.slice A5 pre.length c5).ownBlock) w3 (.slice A6 n6 c6) (comsI p l1 l2)) := Lib.hid (hs3.more (fun g _ hg => ⟨Nat.le_trans HS0.out hg, fun e => by have h1 := (HAO.out.lt g e.symm).2; have h2 : W.heap.size ≤ g := hg; omega⟩))
    have hc3 := HB3.out.cell
    have hc3a := (HB3.out.alloc (.cells #[.slice A6 n6 c6] 47)).cell
    clear hg3 hs3
    dsimp only
    refine hK _ _ ?_
    clear hK K
    try simp only [Act.put, List.setIfInBounds_toArray, List.set_cons_zero, List.set_cons_succ]
    refine wpAny_ready (rs := [0, 5]) (by kernel_rfl) (by simp) ?_
    refine AllReady.cons (o := ({ dst := some 15, op := Op.load 30 (Operand.tmp 7), type := 30, pos := "pedersen.go:80", after := #[], guard := none } : Oper)) rfl (fun K hK => ?_) ?_
    · skip
      go_simp
      refine hK _ _ ?_
      clear hK K
      try simp only [Act.put, List.setIfInBounds_toArray, List.set_cons_zero, List.set_cons_succ]
      refine wpAny_ready (rs := [5]) (by kernel_rfl) (by simp) ?_
      refine AllReady.cons (o := ({ dst := some 20, op := Op.buildSlice 30 1 #[(0, Operand.tmp 19)], type := 30, pos := "pedersen.go:80", after := #[{ on := 4, ground := Ground.data }], guard := none } : Oper)) rfl (fun K hK => ?_) AllReady.nil
      go_simp
      refine hK _ _ ?_
      clear hK K
      try simp only [Act.put, List.setIfInBounds_toArray, List.set_cons_zero, List.set_cons_succ]
      refine wpAny_ready (rs := [6]) (by kernel_rfl) (by simp) ?_
      refine AllReady.cons (o := ({ dst := some 21, op := Op.call { callee := Callee.builtin Builtin.append, args := #[Operand.tmp 15, Operand.tmp 20], argTypes := #[30, 30] }, type := 30, pos := "pedersen.go:80", after := #[{ on := 0, ground := Ground.data }, { on := 5, ground := Ground.data }, { on := 4, ground := Ground.chain }], guard := none } : Oper)) rfl (fun K hK => ?_) AllReady.nil
      refine step_push rfl (.tmp 15) (.tmp 20) rfl (E := encS (encS encU)) (y := comsI p l1 l2) el_rows HA3.out rfl rfl ⟨_, rfl, HU.out⟩ HLB.out HSZ.out HNX.out ?_
      intro v4 w4 hacc4 hg4 _
      obtain ⟨A4, c4, e4, _, _⟩ := hacc4.sl.form
      generalize (List.map (fun x : SS (encS encU) X w small2 => comsI p x.lists.1 x.lists.2) pre ++ [comsI p l1 l2]).length = n4 at e4
      subst e4
      have HA4 := Lib.hid hacc4
      have HG4 := Lib.hid hg4
      have hB4 := HB3.out.kept HG4.out HNE.out
      have cB4 := hB4.cell
      have fB4 := hB4.frozen
      have HB4 := Lib.hid hB4
      clear hacc4 hg4 hB4
      refine hK _ _ ?_
      clear hK K
      try simp only [Act.put, List.setIfInBounds_toArray, List.set_cons_zero, List.set_cons_succ]
      refine wpAny_ready (rs := [7]) (by kernel_rfl) (by simp) ?_
      refine AllReady.cons (o := ({ dst := none, op := Op.store 30 (Operand.tmp 7) (Operand.tmp 21), type := 0, pos := "pedersen.go:80", after := #[{ on := 6, ground := Ground.data }, { on := 6, ground := Ground.chain }, { on := 0, ground := Ground.phase }, { on := 1, ground := Ground.phase }, { on := 2, ground := Ground.phase }, { on := 3, ground := Ground.phase }, { on := 4, ground := Ground.phase }, { on := 5, ground := Ground.phase }, { on := 6, ground := Ground.phase }], guard := none } : Oper)) rfl (fun K hK => ?_) AllReady.nil
      go_simp
      refine hK _ _ ?_
      clear hK K
      try simp only [Act.put, List.setIfInBounds_toArray, List.set_cons_zero, List.set_cons_succ]
      refine wpAny_done (by kernel_rfl) ?_ _
      exact ⟨rfl, FIN w3 w4 A4 n4 c4 HG3.out HG4.out HA3.out HA4.out HB4.out⟩
    refine AllReady.cons (o := ({ dst := some 20, op := Op.buildSlice 30 1 #[(0, Operand.tmp 19)], type := 30, pos := "pedersen.go:80", after := #[{ on := 4, ground := Ground.data }], guard := none } : Oper)) rfl (fun K hK => ?_) AllReady.nil
    go_simp
    refine hK _ _ ?_
    clear hK K
    try simp only [Act.put, List.setIfInBounds_toArray, List.set_cons_zero, List.set_cons_succ]
    refine wpAny_ready (rs := [0]) (by kernel_rfl) (by simp) ?_
    refine AllReady.cons (o := ({ dst := some 15, op := Op.load 30 (Operand.tmp 7), type := 30, pos := "pedersen.go:80", after := #[], guard := none } : Oper)) rfl (fun K hK => ?_) AllReady.nil
    go_simp
    refine hK _ _ ?_
    clear hK K
    try simp only [Act.put, List.setIfInBounds_toArray, List.set_cons_zero, List.set_cons_succ]
    refine wpAny_ready (rs := [6]) (by kernel_rfl) (by simp) ?_
    refine AllReady.cons (o := ({ dst := some 21, op := Op.call { callee := Callee.builtin Builtin.append, args := #[Operand.tmp 15, Operand.tmp 20], argTypes := #[30, 30] }, type := 30, pos := "pedersen.go:80", after := #[{ on := 0, ground := Ground.data }, { on := 5, ground := Ground.data }, { on := 4, ground := Ground.chain }], guard := none } : Oper)) rfl (fun K hK => ?_) AllReady.nil
    refine step_push rfl (.tmp 15) (.tmp 20) rfl (E := encS (encS encU)) (y := comsI p l1 l2) el_rows HA3.out rfl rfl ⟨_, rfl, HU.out⟩ HLB.out HSZ.out HNX.out ?_
    intro v4 w4 hacc4 hg4 _
    obtain ⟨A4, c4, e4, _, _⟩ := hacc4.sl.form
    generalize (List.map (fun x : SS (encS encU) X w small2 => comsI p x.lists.1 x.lists.2) pre ++ [comsI p l1 l2]).length = n4 at e4
    subst e4
    have HA4 := Lib.hid hacc4
    have HG4 := Lib.hid hg4
    have hB4 := HB3.out.kept HG4.out HNE.out
    have cB4 := hB4.cell
    have fB4 := hB4.frozen
    have HB4 := Lib.hid hB4
    clear hacc4 hg4 hB4
    refine hK _ _ ?_
    clear hK K
    try simp only [Act.put, List.setIfInBounds_toArray, List.set_cons_zero, List.set_cons_succ]
    refine wpAny_ready (rs := [7]) (by kernel_rfl) (by simp) ?_
    refine AllReady.cons (o := ({ dst := none, op := Op.store 30 (Operand.tmp 7) (Operand.tmp 21), type := 0, pos := "pedersen.go:80", after := #[{ on := 6, ground := Ground.data }, { on := 6, ground := Ground.chain }, { on := 0, ground := Ground.phase }, { on := 1, ground := Ground.phase }, { on := 2, ground := Ground.phase }, { on := 3, ground := Ground.phase }, { on := 4, ground := Ground.phase }, { on := 5, ground := Ground.phase }, { on := 6, ground := Ground.phase }], guard := none } : Oper)) rfl (fun K hK => ?_) AllReady.nil
    go_simp
    refine hK _ _ ?_
    clear hK K
    try simp only [Act.put, List.setIfInBounds_toArray, List.set_cons_zero, List.set_cons_succ]
    refine wpAny_done (by kernel_rfl) ?_ _
    exact ⟨rfl, FIN w3 w4 A4 n4 c4 HG3.out HG4.out HA3.out HA4.out HB4.out⟩
  case done =>
    rintro D zs W hD hzs ⟨⟨v, hbo, hao⟩, hbp, hbl, hba, hbb⟩ hK
    have cO := hbo.cell
    rw [map_lists_mat p hzs] at hao
    obtain ⟨A3, c3, e3, _, _⟩ := hao.sl.form
    rw [List.length_map] at e3
    subst e3
    gi_wp2
    refine ⟨by simp, .inl ⟨_, _, rfl, run_takeDeferred hK, ?_⟩⟩
    refine ⟨_, results_tmp rfl _ _ _, .slice A3 (zipS f r).length c3, rfl, ?_, ?_⟩
    · exact (hao.sl.keepc (grownBy_putObj' W D _) (fun r e => ⟨.deferred (some []), by cases e; exact hK, rfl⟩)).more (Y := fun g => w.heap.size ≤ g) (fun g _ h => Nat.le_trans (Nat.le_add_right _ 4) h)
    · exact grown_of_below (hbl.trans (belowK_b (w := w) (Nat.le_refl _) W D _ _ (by omega) hK rfl rfl))
  case stop =>
    rintro D c pre W _ _ h _
    exact h.elim
end Go.Proofs.YthicondcjeipfaaGreatDoor

namespace Go.Proofs.YthicondcjeipfaaGreatDoor
open Go Go.RowKit

end Go.Proofs.YthicondcjeipfaaGreatDoor

namespace Go.Proofs.YthicondcjeipfaaGreatDoor
open Go Go.RowKit

def secretsI (p : Par) : Int := wrap64 (p.K * wrap64 (p.D + 1))
end Go.Proofs.YthicondcjeipfaaGreatDoor

namespace Go.Proofs.YthicondcjeipfaaGreatDoor
open Go

/-- What is known of a value, and stands as long as nothing that lay there is written. -/
structure Pv where
  p : Value → World → Prop
  st : ∀ {v w w'}, p v w → w.grownBy w' none → p v w'
def Pv.any : Pv := ⟨fun _ _ => True, fun _ _ => trivial⟩
def Pv.eq (u : Value) : Pv := ⟨fun v _ => v = u, fun h _ => h⟩
def Pv.sl {α : Type} (E : Enc α) (X : Nat → Prop) (xs : List α) : Pv := ⟨fun v w => Sl E X w v xs, fun h hg => h.kept hg⟩

section
variable {P : Program} {ops : Array Oper} {Q : Exit → Act → World → Prop} {n : Nat} {a0 : Act} {w0 : World}

def dstAt (ops : Array Oper) (j : Nat) : Option Tmp := (ops[j]?).bind (·.dst)
/-- Slot t is as at the start where operation i may come. -/
def keptB (ops : Array Oper) (n i : Nat) (t : Tmp) : Bool := (List.range n).all fun j => dstAt ops j != some t || Region.waitsFor .any ops j i || j == i
def pairB (ops : Array Oper) (i : Nat) (js : List (Nat × Tmp)) : Bool := js.all fun x => dstAt ops x.1 == some x.2 && Region.waitsFor .any ops i x.1
def lookB (ops : Array Oper) (n i : Nat) (js : List (Nat × Tmp)) : Bool := ((ops[i]?).map fun o => (o.looksAt ops).all fun t => js.any (·.2 == t) || keptB ops n i t).getD false
def Told (V : Pv) (dst : Option Tmp) (ds : List Deferred) (w : World) : Exit → Act → World → Prop := fun e a' w' => e = .normal ∧ a'.defers = ds ∧ V.p (match dst with | some d => a'.eval (.tmp d) | none => undef) w' ∧ w.grownBy w' none
def Ask (P : Program) (ops : Array Oper) (Vs : List Pv) (Qt : Exit → Act → World → Prop) (o : Oper) (w : World) : List (Nat × Tmp) → Act → Prop
  | [], a => wpList P ops Qt [o] a w
  | (j, d) :: js, a => ∀ x, (Vs.getD j Pv.any).p x w → Ask P ops Vs Qt o w js (a.put (some d) x)
def Mono (P : Program) (ops : Array Oper) (n : Nat) (a0 : Act) (w0 : World) (F : List Pv → Prop) : List Pv → List Oper → Prop
  | Vs, [] => F Vs
  | Vs, o :: os => ∃ (V : Pv) (js : List (Nat × Tmp)), (pairB ops Vs.length js && lookB ops n Vs.length js) = true ∧ (∀ w, w0.grownBy w none → Ask P ops Vs (Told V o.dst a0.defers w) o w js a0) ∧ Mono P ops n a0 w0 F (Vs ++ [V]) os
def Fin' (G : Act → World → Prop) (w : World) : List Pv → List Oper → Act → Prop
  | V :: Vs, o :: os, a => ∀ x, V.p x w → Fin' G w Vs os (a.put o.dst x)
  | _, _, a => G a w
/-- What may be listed ahead of operation i. -/
def av (ops : Array Oper) (i : Nat) : Nat → Nat → Bool
  | 0, k => k != i
  | f + 1, k => k != i && ((ops[k]?).map (·.after.all fun e => !Region.binds .any e || av ops i f e.on)).getD false
def tailB (ops : Array Oper) (n : Nat) : Bool :=
  (List.range ops.size).all (fun j => decide (j < n) || (List.range n).all fun i => !av ops i n j) && Region.seqB .any ops (ops.size - n) n (Array.replicate n true ++ Array.replicate (ops.size - n) false)
def topoB (ops : Array Oper) (n : Nat) : Bool := (List.range n).all fun i => ((ops[i]?).map (·.after.all fun e => !Region.binds .any e || decide (e.on < i))).getD false
def distB (ops : Array Oper) (n sz : Nat) : Bool := (List.range n).all fun i => match dstAt ops i with | none => true | some d => decide (d < sz) && (List.range n).all fun j => j == i || dstAt ops j != some d
def monoB (ops : Array Oper) (n sz : Nat) : Bool := Region.noSelect ops && decide (n ≤ ops.size) && tailB ops n && topoB ops n && distB ops n sz

theorem put_size (a : Act) (dst : Option Tmp) (v : Value) : (a.put dst v).tmps.size = a.tmps.size := by
  cases dst <;> simp [Act.put]
theorem put_defers (a : Act) (dst : Option Tmp) (v : Value) : (a.put dst v).defers = a.defers := by
  cases dst <;> rfl
theorem put_at (a : Act) (d t : Tmp) (v : Value) (h : d ≠ t) : (a.put (some d) v).tmps[t]? = a.tmps[t]? := by
  simp [Act.put, Array.getElem?_setIfInBounds_ne h]
theorem eval_of (a b : Act) (t : Tmp) (h : a.tmps[t]? = b.tmps[t]?) : a.eval (.tmp t) = b.eval (.tmp t) := by
  simp [Act.eval, Array.getD_eq_getD_getElem?, h]
theorem put_own (a b : Act) (t : Tmp) (hs : a.tmps.size = b.tmps.size) : (a.put (some t) (b.eval (.tmp t))).tmps[t]? = b.tmps[t]? := by
  by_cases h : t < a.tmps.size
  · have h' : t < b.tmps.size := hs ▸ h
    simp [Act.put, Act.eval, Array.getD_eq_getD_getElem?, h, h']
  · have h' : ¬ t < b.tmps.size := hs ▸ h
    simp [Act.put, h, h']
/-- The values of b put onto a. -/
def onto (b : Act) (ds : List (Option Tmp)) (a : Act) : Act := ds.foldl (fun a d => a.put d (match d with | some d => b.eval (.tmp d) | none => undef)) a
theorem onto_size (b : Act) : ∀ (ds : List (Option Tmp)) (a : Act), (onto b ds a).tmps.size = a.tmps.size
  | [], _ => rfl
  | _ :: ds, _ => (onto_size b ds _).trans (put_size _ _ _)
theorem onto_defers (b : Act) : ∀ (ds : List (Option Tmp)) (a : Act), (onto b ds a).defers = a.defers
  | [], _ => rfl
  | _ :: ds, _ => (onto_defers b ds _).trans (put_defers _ _ _)
theorem onto_at (b : Act) (t : Tmp) : ∀ (ds : List (Option Tmp)) (a : Act), a.tmps.size = b.tmps.size → (some t ∈ ds ∨ a.tmps[t]? = b.tmps[t]?) → (onto b ds a).tmps[t]? = b.tmps[t]?
  | [], a, _, h => h.resolve_left (by simp)
  | d :: ds, a, hs, h => by
    refine onto_at b t ds _ ((put_size _ _ _).trans hs) ?_
    cases d with
    | none => exact h.imp (fun h => by simpa using h) id
    | some d =>
      by_cases e : d = t
      · subst e; exact .inr (put_own a b d hs)
      · refine h.imp (fun h => ?_) (fun h => (put_at a d t _ e).trans h)
        rcases List.mem_cons.1 h with h | h
        · injection h with h; exact absurd h.symm e
        · exact h
theorem act_ext {a b : Act} (h : ∀ t : Nat, a.tmps[t]? = b.tmps[t]?) (hd : a.defers = b.defers) : a = b := by
  obtain ⟨t1, d1⟩ := a
  obtain ⟨t2, d2⟩ := b
  obtain rfl : d1 = d2 := hd
  obtain rfl : t1 = t2 := Array.ext_getElem? h
  rfl

theorem Ask.all {Vs : List Pv} {Qt : Exit → Act → World → Prop} {o : Oper} {w : World} {b : Act} : ∀ {js : List (Nat × Tmp)} {a : Act}, (∀ x : Nat × Tmp, x ∈ js → (Vs.getD x.1 Pv.any).p (b.eval (.tmp x.2)) w) → Ask P ops Vs Qt o w js a → wpList P ops Qt [o] (onto b (js.map fun x => some x.2) a) w
  | [], _, _, h => h
  | (j, d) :: js, a, hx, h => Ask.all (js := js) (fun x hm => hx x (List.mem_cons_of_mem _ hm)) (h _ (hx (j, d) (by simp)))
theorem Fin'.all {G : Act → World → Prop} {w : World} {b : Act} : ∀ {Vs : List Pv} {os : List Oper} {a : Act}, Vs.length = os.length → (∀ (k : Nat) (V : Pv) (o : Oper), Vs[k]? = some V → os[k]? = some o → V.p (match o.dst with | some d => b.eval (.tmp d) | none => undef) w) → Fin' G w Vs os a → G (onto b (os.map (·.dst)) a) w
  | [], [], _, _, _, h => h
  | V :: Vs, o :: os, a, hl, hx, h => Fin'.all (Vs := Vs) (os := os) (by simpa using hl) (fun k V o hv ho => hx (k + 1) V o (by simpa using hv) (by simpa using ho)) (h _ (hx 0 V o rfl rfl))
  | [], _ :: _, _, hl, _, _ => by simp at hl
  | _ :: _, [], _, hl, _, _ => by simp at hl
theorem Mono.out {F : List Pv → Prop} : ∀ {os : List Oper} {Vs : List Pv}, Mono P ops n a0 w0 F Vs os → ∃ Ws : List Pv, Ws.length = os.length ∧ F (Vs ++ Ws) ∧ ∀ k o, os[k]? = some o → ∃ V js, Ws[k]? = some V ∧ (pairB ops (Vs.length + k) js && lookB ops n (Vs.length + k) js) = true ∧ ∀ w, w0.grownBy w none → Ask P ops ((Vs ++ Ws).take (Vs.length + k)) (Told V o.dst a0.defers w) o w js a0
  | [], Vs, h => ⟨[], rfl, by rw [List.append_nil]; exact h, fun k o hk => by simp at hk⟩
  | o :: os, Vs, ⟨V, js, hb, hA, hM⟩ => by
    obtain ⟨Ws, hl, hF, hk⟩ := Mono.out hM
    refine ⟨V :: Ws, by simp [hl], by simpa using hF, fun k o' ho => ?_⟩
    cases k with
    | zero =>
      obtain rfl : o = o' := by simpa using ho
      exact ⟨V, js, rfl, hb, fun w hw => by simpa using hA w hw⟩
    | succ k =>
      obtain ⟨V', js', h1, h2, h3⟩ := hk k o' (by simpa using ho)
      refine ⟨V', js', by simpa using h1, ?_, fun w hw => ?_⟩
      · simpa [Nat.add_assoc, Nat.add_comm 1 k] using h2
      · have := h3 w hw
        simpa [Nat.add_assoc, Nat.add_comm 1 k] using this

theorem Mono.weak {F G : List Pv → Prop} : ∀ {os : List Oper} {Vs : List Pv}, Mono P ops n a0 w0 F Vs os → (∀ Ws, Ws.length = Vs.length + os.length → F Ws → G Ws) → Mono P ops n a0 w0 G Vs os
  | [], Vs, h, hg => hg Vs (by simp) h
  | o :: os, Vs, ⟨V, js, hb, hA, hM⟩, hg => ⟨V, js, hb, hA, Mono.weak hM fun Ws hW => hg Ws (by simp at hW ⊢; omega)⟩
def valOf (dst : Option Tmp) (a : Act) : Value := match dst with | some d => a.eval (.tmp d) | none => undef
structure MInv (ops : Array Oper) (n : Nat) (a0 : Act) (w0 : World) (Vs : List Pv) (D : Array Bool) (a : Act) (w : World) : Prop where
  head : HeadInv .any ops n D
  grown : w0.grownBy w none
  tsize : a.tmps.size = a0.tmps.size
  defers : a.defers = a0.defers
  rest : ∀ t, (∀ j, j < n → D.getD j false = true → dstAt ops j ≠ some t) → a.tmps[t]? = a0.tmps[t]?
  known : ∀ j V, D.getD j false = true → Vs[j]? = some V → V.p (valOf (dstAt ops j) a) w
def cnt (D : Array Bool) : Nat → Nat
  | 0 => 0
  | k + 1 => cnt D k + if D.getD k false then 0 else 1
theorem cnt_set {D : Array Bool} {i : Nat} : ∀ k, (k ≤ i → cnt (D.setIfInBounds i true) k = cnt D k) ∧ (i < k → D.getD i true = false → cnt (D.setIfInBounds i true) k + 1 = cnt D k)
  | 0 => ⟨fun _ => rfl, fun h => by omega⟩
  | k + 1 => by
    obtain ⟨h1, h2⟩ := cnt_set (D := D) (i := i) k
    refine ⟨fun h => ?_, fun h hf => ?_⟩
    · simp only [cnt]
      rw [h1 (by omega), getD_set_ne false (by omega)]
    · simp only [cnt]
      by_cases e : i = k
      · subst e
        have hlt : i < D.size := by
          rcases Nat.lt_or_ge i D.size with h' | h'
          · exact h'
          · simp [Array.getElem?_eq_none h'] at hf
        rw [h1 (Nat.le_refl _), getD_both hf]
        simp [hlt]
      · have := h2 (by omega) hf
        rw [getD_set_ne false e]
        omega
theorem cnt_zero {D : Array Bool} : ∀ {k}, cnt D k = 0 → ∀ i, i < k → D.getD i false = true
  | 0, _, i, h => by omega
  | k + 1, h, i, hi => by
    simp only [cnt] at h
    by_cases e : i = k
    · subst e
      by_cases hd : D.getD i false = true
      · exact hd
      · simp [hd] at h
    · exact cnt_zero (k := k) (by omega) i (by omega)
theorem cnt_false (m : Nat) : ∀ k, cnt (Array.replicate m false) k = k
  | 0 => rfl
  | k + 1 => by simp only [cnt, cnt_false m k, getD_replicate_false]; rfl
theorem av_of {D : Array Bool} {i : Nat} (hcl : ∀ j oj, ops[j]? = some oj → D.getD j false = true → ∀ e ∈ oj.after, Region.binds .any e = true → D.getD e.on false = true) (hsz : D.size = ops.size) (hi : D.getD i false = false) : ∀ f k, D.getD k false = true → av ops i f k = true
  | 0, k, hk => by
    simp only [av, bne_iff_ne]
    rintro rfl
    rw [hi] at hk
    cases hk
  | f + 1, k, hk => by
    have hlt : k < ops.size := by
      rcases Nat.lt_or_ge k D.size with h' | h'
      · omega
      · simp [Array.getElem?_eq_none h'] at hk
    have ho : ops[k]? = some ops[k] := Array.getElem?_eq_getElem hlt
    simp only [av, ho, Option.map_some, Option.getD_some, Bool.and_eq_true, bne_iff_ne]
    refine ⟨?_, ?_⟩
    · rintro rfl
      rw [hi] at hk
      cases hk
    · rw [Array.all_eq_true_iff_forall_mem]
      intro e he
      by_cases hb : Region.binds .any e = true
      · simp [hb, av_of hcl hsz hi f e.on (hcl k _ ho hk e he hb)]
      · simp [hb]
theorem list_all_range {n : Nat} {p : Nat → Bool} (h : (List.range n).all p = true) {i : Nat} (hi : i < n) : p i = true := List.all_eq_true.1 h i (List.mem_range.2 hi)
theorem match_valOf (dst : Option Tmp) (a : Act) : (match dst with | some d => a.eval (.tmp d) | none => undef) = valOf dst a := by cases dst <;> rfl
theorem told_letsOut {V : Pv} {dst : Option Tmp} {ds : List Deferred} {w : World} : ¬ LetsOut (Told V dst ds w) := by
  rintro ⟨a, w', e, _⟩
  cases e
theorem told_op {V : Pv} {o : Oper} {a b : Act} {w : World} (hs : ∀ cs b, o.op ≠ .select cs b) (hd : ∀ d, o.dst = some d → d < a.tmps.size) (hsz : b.tmps.size = a.tmps.size) (hlook : ∀ t ∈ o.looksAt ops, b.tmps[t]? = a.tmps[t]?) {i : Nat} (hi : ops[i]? = some o)
    (hdf : b.defers = a0.defers) (h : wpList P ops (Told V o.dst a0.defers w) [o] b w) : wpOp P ops Q i (fun a' w' => ∃ v, a' = a.put o.dst v ∧ V.p (match o.dst with | some _ => v | none => undef) w' ∧ w.grownBy w' none) a w := by
  have hex : execOp b.eval o = execOp a.eval o := execOp_congr o hs fun x hx => by
    cases x with
    | tmp t => exact eval_of _ _ _ (hlook t (List.mem_append_left _ (List.mem_filterMap.2 ⟨.tmp t, by simpa using hx, rfl⟩)))
    | _ => rfl
  have hwn : Region.wanted o (yielded ops b.tmps) = Region.wanted o (yielded ops a.tmps) := by
    unfold Region.wanted
    cases hg : o.guard with
    | none => rfl
    | some gw =>
      obtain ⟨g, want⟩ := gw
      have hy : yielded ops b.tmps g = yielded ops a.tmps g := by
        unfold yielded
        cases ht : (ops[g]?).bind (·.dst) with
        | none => rfl
        | some t => simp only [Option.bind_some, hlook t (by simp [Oper.looksAt, hg, ht])]
      simp only [hy]
  have fin : ∀ v w', Told V o.dst a0.defers w .normal (b.put o.dst v) w' → ∃ v', a.put o.dst v = a.put o.dst v' ∧ V.p (match o.dst with | some _ => v' | none => undef) w' ∧ w.grownBy w' none := by
    rintro v w' ⟨_, _, h1, h2⟩
    refine ⟨v, rfl, ?_, h2⟩
    cases hdd : o.dst with
    | none => rw [hdd] at h1; exact h1
    | some d =>
      rw [hdd] at h1
      have hlt := hd d hdd
      have : (b.put (some d) v).eval (.tmp d) = v := by simp [Act.put, Act.eval, Array.getD_eq_getD_getElem?, hsz, hlt]
      simp only [this] at h1
      exact h1
  unfold wpOp
  simp only [hi]
  simp only [wpList, hwn] at h
  split
  · rename_i hw
    rw [if_pos hw] at h
    rcases h with h | h
    · left
      unfold Oper.wp at h ⊢
      rw [hex] at h
      generalize (execOp a.eval o).run P w = r at *
      cases r with
      | ok x w' =>
        cases x with
        | value v => exact fin v w' h
        | skip => exact fin undef w' h
        | enter f args =>
          refine Calls.mono h fun e w'' he => ?_
          cases e with
          | returned u => exact fin u w'' he
          | panicked c => exact absurd he.1 (by simp)
          | outgrown => exact absurd he told_letsOut
        | row row args => exact Rows.mono h fun u w'' he => fin u w'' he
        | defer d =>
          obtain ⟨_, h1, _⟩ := h
          have h1 : (Act.put { b with defers := d :: b.defers } o.dst undef).defers = a0.defers := h1
          rw [put_defers, ← hdf] at h1
          exact absurd (congrArg List.length h1) (by simp)
        | _ => exact h.elim
      | halt x w' =>
        cases x with
        | panic v => exact absurd h.1 (by simp)
        | _ => exact h.elim
    · exact absurd h.2 told_letsOut
  · rename_i hw
    rw [if_neg hw] at h
    exact fin undef w h
theorem minv_step {Vs : List Pv} {D : Array Bool} {a a' : Act} {w w' : World} {i : Nat} {o : Oper} {V : Pv} {v : Value} (inv : MInv ops n a0 w0 Vs D a w) (hd : distB ops n a0.tmps.size = true) (hi : i ∈ Region.ready .any ops D) (hin : i < n) (ho : ops[i]? = some o) (hV : Vs[i]? = some V) (hnl : Vs.length ≤ n)
    (ha : a' = a.put o.dst v) (hv : V.p (match o.dst with | some _ => v | none => undef) w') (hg : w.grownBy w' none) : MInv ops n a0 w0 Vs (D.setIfInBounds i true) a' w' := by
  subst ha
  have hdi : dstAt ops i = o.dst := by simp [dstAt, ho]
  have hun : D.getD i true = false := (mem_ready.1 hi).1
  have hlt : i < D.size := by
    rcases Nat.lt_or_ge i D.size with h' | h'
    · exact h'
    · simp [Array.getElem?_eq_none h'] at hun
  refine ⟨inv.head.set hi hin, inv.grown.trans hg, (put_size _ _ _).trans inv.tsize, (put_defers _ _ _).trans inv.defers, fun t ht => ?_, fun j W hj hW => ?_⟩
  · have h1 : o.dst ≠ some t := fun e => ht i hin (by simp [hlt]) (hdi.trans e)
    refine Eq.trans ?_ (inv.rest t fun j hj hD => ht j hj (getD_set_true hD))
    cases hdd : o.dst with
    | none => rfl
    | some d => exact put_at _ _ _ _ (fun e => h1 (by rw [hdd, e]))
  · by_cases e : i = j
    · subst e
      obtain rfl : V = W := Option.some.inj (hV.symm.trans hW)
      rw [hdi]
      cases hdd : o.dst with
      | none => rw [hdd] at hv; exact hv
      | some d =>
        rw [hdd] at hv
        have hds := list_all_range hd hin
        rw [hdi, hdd] at hds
        simp only [Bool.and_eq_true, decide_eq_true_eq] at hds
        have : (a.put (some d) v).eval (.tmp d) = v := by simp [Act.put, Act.eval, Array.getD_eq_getD_getElem?, inv.tsize, hds.1]
        show V.p ((a.put (some d) v).eval (.tmp d)) w'
        rw [this]
        exact hv
    · have hjn : j < n := by have := (List.getElem?_eq_some_iff.1 hW).1; omega
      rw [getD_set_ne false e] at hj
      have h1 := W.st (inv.known j W hj hW) hg
      cases hdj : dstAt ops j with
      | none => rw [hdj] at h1; exact h1
      | some dj =>
        rw [hdj] at h1
        have h1 : W.p (a.eval (.tmp dj)) w' := h1
        show W.p ((a.put o.dst v).eval (.tmp dj)) w'
        cases hdd : o.dst with
        | none => exact h1
        | some d =>
          have hds := list_all_range hd hin
          rw [hdi, hdd] at hds
          simp only [Bool.and_eq_true, decide_eq_true_eq] at hds
          have h2 := list_all_range hds.2 hjn
          simp only [Bool.or_eq_true, beq_iff_eq, bne_iff_ne, ne_eq] at h2
          have h3 : d ≠ dj := fun e' => (h2.resolve_left (fun e2 => e e2.symm)) (by rw [hdj, e'])
          rw [eval_of _ a dj (put_at a d dj v h3)]
          exact h1
/-- The law. -/
theorem wpAny_mono {l : List Oper} (n : Nat) (hB : monoB l.toArray n a0.tmps.size = true)
    (h : Mono P l.toArray n a0 w0 (fun Vs => ∀ w, w0.grownBy w none → Fin' (fun a w => wpList P l.toArray Q (l.drop n) a w) w Vs (l.take n) a0) [] (l.take n)) : wpAny P .any l.toArray Q l.toArray.size (Array.replicate l.toArray.size false) a0 w0 := by
  simp only [monoB, Bool.and_eq_true, decide_eq_true_eq] at hB
  obtain ⟨⟨⟨⟨hsel, hn⟩, htail⟩, htopo⟩, hdist⟩ := hB
  simp only [tailB, Bool.and_eq_true] at htail
  obtain ⟨hblk, hseq⟩ := htail
  obtain ⟨Vs, hVl, hF, hO⟩ := Mono.out h
  rw [List.nil_append] at hF
  simp only [List.nil_append, List.length_nil, Nat.zero_add] at hO
  have hnl : n ≤ l.length := by simpa using hn
  have htl : (l.take n).length = n := by simp; omega
  have hVn : Vs.length = n := hVl.trans htl
  have hdl : (l.drop n).length = l.toArray.size - n := by simp
  have hnext : ∀ i o, i < n → l.toArray[i]? = some o → (l.take n)[i]? = some o := fun i o hi ho => by
    rw [List.getElem?_take, if_pos hi]
    simpa using ho
  have key : ∀ m D a w, MInv l.toArray n a0 w0 Vs D a w → cnt D n = m → wpAny P .any l.toArray Q (m + (l.toArray.size - n)) D a w := by
    intro m
    induction m with
    | zero =>
      intro D a w inv hc
      have hall := cnt_zero hc
      have hD : D = Array.replicate n true ++ Array.replicate (l.toArray.size - n) false := by
        have hsz := inv.head.size
        refine Array.ext (by simp [hsz]; omega) fun i h1 h2 => ?_
        rw [Array.getElem_append]
        by_cases hi : i < n
        · have := hall i hi
          simp [h1] at this
          simp [hi, this]
        · have := inv.head.tail i (by omega) (by omega)
          simp [h1] at this
          simp [hi, this]
      have hk : ∀ (k : Nat) (V : Pv) (o : Oper), Vs[k]? = some V → (l.take n)[k]? = some o → V.p (match o.dst with | some d => a.eval (.tmp d) | none => undef) w := by
        intro k V o hv ho
        have hkn : k < n := by have := (List.getElem?_eq_some_iff.1 hv).1; omega
        have h1 := inv.known k V (hall k hkn) hv
        have h2 : dstAt l.toArray k = o.dst := by
          have : l[k]? = some o := by rw [List.getElem?_take, if_pos hkn] at ho; exact ho
          simp [dstAt, this]
        rw [h2] at h1
        rw [match_valOf]
        exact h1
      have hfin := Fin'.all hVl hk (hF w inv.grown)
      have hon : onto a ((l.take n).map (·.dst)) a0 = a := by
        refine act_ext (fun t => onto_at a t _ _ inv.tsize.symm ?_) ((onto_defers _ _ _).trans inv.defers.symm)
        by_cases ht : some t ∈ (l.take n).map (·.dst)
        · exact .inl ht
        · refine .inr (inv.rest t fun j hj _ e => ht ?_).symm
          have hjl : j < l.length := by omega
          have : l[j].dst = some t := by simpa [dstAt, hjl] using e
          exact List.mem_map.2 ⟨l[j], List.mem_iff_getElem?.2 ⟨j, by rw [List.getElem?_take, if_pos hj, List.getElem?_eq_getElem hjl]⟩, this⟩
      rw [hon] at hfin
      have := wpAny_of_seq (md := .any) (Q' := Q) (l.drop n) n D a w (fun j => by simp [List.getElem?_drop]) (by rw [hdl, hD]; exact hseq) hfin
      rw [hdl] at this
      rwa [Nat.zero_add]
    | succ m ih =>
      intro D a w inv hc
      have hready : ∀ i ∈ Region.ready .any l.toArray D, i < n := by
        intro i hi
        rcases Nat.lt_or_ge i n with h' | h'
        · exact h'
        · obtain ⟨hu, oi, hoi, hall⟩ := mem_ready.1 hi
          have hlt : i < l.toArray.size := (Array.getElem?_eq_some_iff.1 hoi).1
          exfalso
          obtain ⟨k, hk, hkd⟩ : ∃ k, k < n ∧ D.getD k false = false := by
            refine Classical.byContradiction fun hno => ?_
            have : ∀ k, k ≤ n → cnt D k = 0 := by
              intro k
              induction k with
              | zero => intro _; rfl
              | succ k ihk =>
                intro hk
                have h1 : D.getD k false = true := by
                  refine Classical.byContradiction fun hx => hno ⟨k, by omega, by simpa using hx⟩
                simp only [cnt, h1, ihk (by omega)]
                rfl
            rw [this n (Nat.le_refl _)] at hc
            omega
          have hb := list_all_range hblk hlt
          simp only [Bool.or_eq_true, decide_eq_true_eq] at hb
          have hb := list_all_range (hb.resolve_left (by omega)) hk
          simp only [Bool.not_eq_true'] at hb
          have hik : i ≠ k := by omega
          have : av l.toArray k n i = true := by
            have hav := fun f j hj => av_of (ops := l.toArray) inv.head.closed inv.head.size hkd f j hj
            cases hn0 : n with
            | zero => simp [av, hik]
            | succ f =>
              simp only [av, hoi, Option.map_some, Option.getD_some, Bool.and_eq_true, bne_iff_ne]
              refine ⟨hik, ?_⟩
              rw [Array.all_eq_true_iff_forall_mem]
              intro e he
              by_cases hbd : Region.binds .any e = true
              · simp [hbd, hav f e.on (hall e he hbd)]
              · simp [hbd]
          rw [hb] at this
          cases this
      have hne : Region.ready .any l.toArray D ≠ [] := by
        have hex : ∃ k, k < n ∧ D.getD k false = false ∧ ∀ j, j < k → D.getD j false = true := by
          have : ∀ k, k ≤ n → (∃ q, q < k ∧ D.getD q false = false ∧ ∀ j, j < q → D.getD j false = true) ∨ (cnt D k = 0) := by
            intro k
            induction k with
            | zero => intro _; exact .inr rfl
            | succ k ihk =>
              intro hk
              rcases ihk (by omega) with ⟨q, h1, h2⟩ | h0
              · exact .inl ⟨q, by omega, h2⟩
              · cases hq : D.getD k false with
                | true => right; simp only [cnt, hq, h0]; rfl
                | false => exact .inl ⟨k, by omega, hq, cnt_zero h0⟩
          rcases this n (Nat.le_refl _) with ⟨q, h1, h2⟩ | h0
          · exact ⟨q, h1, h2⟩
          · omega
        obtain ⟨k, hk, hkd, hbel⟩ := hex
        have hkl : k < l.toArray.size := by omega
        have ho : l.toArray[k]? = some l.toArray[k] := Array.getElem?_eq_getElem hkl
        have : k ∈ Region.ready .any l.toArray D := by
          refine mem_ready.2 ⟨getD_in (by rw [inv.head.size]; exact hkl) hkd, _, ho, fun e he hb => hbel _ ?_⟩
          have ht := list_all_range htopo hk
          simp only [ho, Option.map_some, Option.getD_some] at ht
          have := Array.all_eq_true_iff_forall_mem.1 ht e he
          simpa [hb] using this
        intro e
        rw [e] at this
        cases this
      rw [show m + 1 + (l.toArray.size - n) = (m + (l.toArray.size - n)) + 1 by omega]
      refine ⟨fun e => absurd e hne, fun i hi => ?_⟩
      have hin := hready i hi
      obtain ⟨hu, o, ho, hall⟩ := mem_ready.1 hi
      obtain ⟨V, js, hV, hchk, hask⟩ := hO i o (hnext i o hin ho)
      simp only [Bool.and_eq_true] at hchk
      obtain ⟨hpair, hlook⟩ := hchk
      have hdst : ∀ d, o.dst = some d → d < a.tmps.size := by
        intro d hd
        have := list_all_range hdist hin
        have h2 : dstAt l.toArray i = some d := by simp only [dstAt, ho]; exact hd
        rw [h2] at this
        simp only [Bool.and_eq_true, decide_eq_true_eq] at this
        rw [inv.tsize]
        exact this.1
      have hjs : ∀ x : Nat × Tmp, x ∈ js → dstAt l.toArray x.1 = some x.2 ∧ D.getD x.1 false = true ∧ x.1 < i := by
        intro x hx
        have := List.all_eq_true.1 hpair x hx
        simp only [Bool.and_eq_true, beq_iff_eq] at this
        obtain ⟨oj, hoj, e, he, hb, hon⟩ := Region.waitsFor_spec this.2
        obtain rfl : o = oj := Option.some.inj (ho.symm.trans hoj)
        have ht := list_all_range htopo hin
        simp only [ho, Option.map_some, Option.getD_some] at ht
        have ht := Array.all_eq_true_iff_forall_mem.1 ht e he
        simp only [hb, Bool.not_true, Bool.false_or, decide_eq_true_eq] at ht
        exact ⟨this.1, by rw [← hon]; exact hall e he hb, by rw [← hon]; exact ht⟩
      have hA := hask w inv.grown
      have hW := Ask.all (b := a) (fun x hx => by
        obtain ⟨h1, h2, h3⟩ := hjs x hx
        have hxl : x.1 < Vs.length := by omega
        have h4 : Vs[x.1]? = some Vs[x.1] := List.getElem?_eq_getElem hxl
        have h5 := inv.known x.1 _ h2 h4
        rw [h1] at h5
        have : (Vs.take i).getD x.1 Pv.any = Vs[x.1] := by
          rw [List.getD_eq_getElem?_getD, List.getElem?_take, if_pos h3, h4]
          rfl
        rw [this]
        exact h5) hA
      have hop := told_op (Q := Q) (ops := l.toArray) (a0 := a0) (a := a) (Region.noSelect_spec hsel i o · · ho) hdst ((onto_size _ _ _).trans inv.tsize.symm) (fun t ht => by
        refine onto_at a t _ _ inv.tsize.symm ?_
        have h1 : (o.looksAt l.toArray).all (fun t => js.any (·.2 == t) || keptB l.toArray n i t) = true := by
          simpa only [lookB, ho, Option.map_some, Option.getD_some] using hlook
        have h2 := List.all_eq_true.1 h1 t ht
        simp only [Bool.or_eq_true] at h2
        rcases h2 with h2 | h2
        · left
          obtain ⟨x, hx, hxt⟩ := List.any_eq_true.1 h2
          exact List.mem_map.2 ⟨x, hx, by rw [beq_iff_eq.1 hxt]⟩
        · right
          refine (inv.rest t fun j hj hD e => ?_).symm
          have h3 := list_all_range h2 hj
          simp only [Bool.or_eq_true, bne_iff_ne, ne_eq, beq_iff_eq] at h3
          rcases h3 with (h3 | h3) | h3
          · exact h3 e
          · obtain ⟨oj, hoj, e', he', hb', hon⟩ := Region.waitsFor_spec h3
            have := inv.head.closed j oj hoj hD e' he' hb'
            rw [hon, getD_both hu] at this
            cases this
          · subst h3
            rw [getD_both hu] at hD
            cases hD) ho (onto_defers _ _ _) hW
      refine wpOp_mono (fun a' w' hk => ?_) hop
      obtain ⟨v, ha, hv, hg⟩ := hk
      exact ih _ a' w' (minv_step inv hdist hi hin ho hV (by omega) ha hv hg) (by have := (cnt_set (D := D) (i := i) n).2 hin hu; omega)
  have h0 := key n (Array.replicate l.toArray.size false) a0 w0 ⟨⟨by simp, (fun j oj _ hD => by rw [getD_replicate_false] at hD; cases hD), fun t _ ht => by simp only [List.size_toArray] at ht ⊢; simp [ht]⟩, World.grownBy.refl w0 none, rfl, rfl, fun _ _ => rfl, (fun j V hD => by rw [getD_replicate_false] at hD; cases hD)⟩ (cnt_false _ n)
  rwa [show n + (l.toArray.size - n) = l.toArray.size by omega] at h0
/-- One operation that is carried out .. -/
theorem ask_do {V : Pv} {ds : List Deferred} {o : Oper} {a : Act} {w : World} (hw : Region.wanted o (yielded ops a.tmps) = true)
    (h : ∀ K : Act → World → Prop, (∀ a' w', a'.defers = ds → V.p (match o.dst with | some d => a'.eval (.tmp d) | none => undef) w' → w.grownBy w' none → K a' w') → o.wp P a w K (Told V o.dst ds w)) : wpList P ops (Told V o.dst ds w) [o] a w := by
  unfold wpList
  rw [if_pos hw]
  exact .inl (h _ fun a' w' h1 h2 h3 => ⟨rfl, h1, h2, h3⟩)
/-- The same, over the whole row. -/
def MonoN (P : Program) (ops : Array Oper) (n : Nat) (a0 : Act) (w0 : World) (F : List Pv → List Oper → Prop) : Nat → List Pv → List Oper → Prop
  | 0, Vs, os => F Vs os
  | _ + 1, _, [] => False
  | k + 1, Vs, o :: os => ∃ (V : Pv) (js : List (Nat × Tmp)), (pairB ops Vs.length js && lookB ops n Vs.length js) = true ∧ (∀ w, w0.grownBy w none → Ask P ops Vs (Told V o.dst a0.defers w) o w js a0) ∧ MonoN P ops n a0 w0 F k (Vs ++ [V]) os
theorem MonoN.step {F : List Pv → List Oper → Prop} {k : Nat} {Vs : List Pv} {o : Oper} {os : List Oper} (V : Pv) (js : List (Nat × Tmp)) (hc : (pairB ops Vs.length js && lookB ops n Vs.length js) = true) (hA : ∀ w, w0.grownBy w none → Ask P ops Vs (Told V o.dst a0.defers w) o w js a0) (h : MonoN P ops n a0 w0 F k (Vs ++ [V]) os) : MonoN P ops n a0 w0 F (k + 1) Vs (o :: os) := ⟨V, js, hc, hA, h⟩
/-- What is behind them. -/
def FinN (P : Program) (ops : Array Oper) (Q : Exit → Act → World → Prop) (w : World) : List Pv → List Oper → Act → Prop
  | V :: Vs, o :: os, a => ∀ x, V.p x w → FinN P ops Q w Vs os (a.put o.dst x)
  | _, os, a => wpList P ops Q os a w
theorem FinN.cut {w : World} : ∀ {Vs : List Pv} {os : List Oper} {a : Act}, Vs.length ≤ os.length → FinN P ops Q w Vs os a → Fin' (fun a w => wpList P ops Q (os.drop Vs.length) a w) w Vs (os.take Vs.length) a
  | [], os, a, _, h => by
    have h : wpList P ops Q os a w := by cases os <;> exact h
    exact h
  | V :: Vs, [], a, hl, _ => by simp at hl
  | V :: Vs, o :: os, a, hl, h => fun x hx => FinN.cut (Vs := Vs) (os := os) (by simpa using hl) (h x hx)
theorem MonoN.cut {F : List Pv → List Oper → Prop} : ∀ {k : Nat} {Vs : List Pv} {os : List Oper}, MonoN P ops n a0 w0 F k Vs os → Mono P ops n a0 w0 (fun Ws => F Ws (os.drop k)) Vs (os.take k) ∧ k ≤ os.length
  | 0, Vs, os, h => ⟨by cases os <;> exact h, Nat.zero_le _⟩
  | k + 1, Vs, [], h => h.elim
  | k + 1, Vs, o :: os, ⟨V, js, hc, hA, h⟩ => ⟨⟨V, js, hc, hA, (MonoN.cut h).1⟩, by simpa using (MonoN.cut h).2⟩
theorem wpAny_monoN {l : List Oper} (n : Nat) (hB : monoB l.toArray n a0.tmps.size = true)
    (h : MonoN P l.toArray n a0 w0 (fun Vs _ => ∀ w, w0.grownBy w none → FinN P l.toArray Q w Vs l a0) n [] l) : wpAny P .any l.toArray Q l.toArray.size (Array.replicate l.toArray.size false) a0 w0 := by
  obtain ⟨hM, hn⟩ := MonoN.cut h
  obtain ⟨Vs, hVl, hF, hO⟩ := Mono.out hM
  have hVn : Vs.length = n := by rw [hVl]; simp; omega
  refine wpAny_mono n hB (Mono.weak hM fun Ws hW hF w hw => ?_)
  have := FinN.cut (by rw [hW]; simp; omega) (hF w hw)
  rw [show Ws.length = n by rw [hW]; simp; omega] at this
  exact this
/-- The same, with what is known in the row in which it came, the last first. -/
def MonoR (P : Program) (ops : Array Oper) (n : Nat) (a0 : Act) (w0 : World) (F : List Pv → Prop) : Nat → List Pv → List Oper → Prop
  | 0, Rs, _ => F Rs.reverse
  | _ + 1, _, [] => False
  | k + 1, Rs, o :: os => ∃ (V : Pv) (js : List (Nat × Tmp)), (pairB ops Rs.length js && lookB ops n Rs.length js) = true ∧ (∀ w, w0.grownBy w none → Ask P ops Rs.reverse (Told V o.dst a0.defers w) o w js a0) ∧ MonoR P ops n a0 w0 F k (V :: Rs) os
theorem MonoR.step {F : List Pv → Prop} {k : Nat} {Rs : List Pv} {o : Oper} {os : List Oper} (V : Pv) (js : List (Nat × Tmp)) (hc : (pairB ops Rs.length js && lookB ops n Rs.length js) = true) (hA : ∀ w, w0.grownBy w none → Ask P ops Rs.reverse (Told V o.dst a0.defers w) o w js a0) (h : MonoR P ops n a0 w0 F k (V :: Rs) os) : MonoR P ops n a0 w0 F (k + 1) Rs (o :: os) := ⟨V, js, hc, hA, h⟩
theorem MonoR.up {F : List Pv → Prop} : ∀ {k : Nat} {Rs : List Pv} {os : List Oper}, MonoR P ops n a0 w0 F k Rs os → MonoN P ops n a0 w0 (fun Vs _ => F Vs) k Rs.reverse os
  | 0, _, _, h => h
  | _ + 1, _, [], h => h.elim
  | k + 1, Rs, o :: os, ⟨V, js, hc, hA, h⟩ => ⟨V, js, by rw [List.length_reverse]; exact hc, hA, by have := MonoR.up h; rwa [List.reverse_cons] at this⟩
theorem wpAny_monoR {l : List Oper} (n : Nat) (hB : monoB l.toArray n a0.tmps.size = true)
    (h : MonoR P l.toArray n a0 w0 (fun Vs => ∀ w, w0.grownBy w none → FinN P l.toArray Q w Vs l a0) n [] l) : wpAny P .any l.toArray Q l.toArray.size (Array.replicate l.toArray.size false) a0 w0 :=
  wpAny_monoN n hB (MonoR.up h)
theorem wp_region_mono {l : List Oper} {id : Nat} (n : Nat) (hm : P.follows .mixedOrders = true) (hB : monoB l.toArray n a0.tmps.size = true)
    (h : MonoR P l.toArray n a0 w0.drew (fun Vs => ∀ w, w0.drew.grownBy w none → FinN P l.toArray Q w Vs l a0) n [] l) : (Code.region id l.toArray true).wp P Q a0 w0 :=
  wp_region_any hm (wpAny_monoR n hB h)
end
def TT : Nat → Prop := fun _ => True
/-- Things laid one behind the other into a new block. -/
def RepL {α : Type} (E : Enc α) (w : World) : List (List Value) → List α → Prop
  | [], [] => True
  | c :: cs, x :: xs => E.rep TT w c x ∧ RepL E w cs xs
  | _, _ => False
theorem RepL.out {α : Type} {E : Enc α} {w : World} : ∀ {css : List (List Value)} {xs : List α}, RepL E w css xs → css.length = xs.length ∧ ∀ i (h : i < xs.length) (h' : i < css.length), E.rep TT w css[i] xs[i]
  | [], [], _ => ⟨rfl, fun i h => by simp at h⟩
  | c :: cs, x :: xs, ⟨h1, h2⟩ => by
    obtain ⟨k1, k2⟩ := RepL.out h2
    refine ⟨by simp [k1], fun i h h' => ?_⟩
    cases i with
    | zero => exact h1
    | succ i => exact k2 i (by simpa using h) (by simpa using h')
theorem RepL.kept {α : Type} {E : Enc α} {w w' : World} (hg : w.grownBy w' none) : ∀ {css : List (List Value)} {xs : List α}, RepL E w css xs → RepL E w' css xs
  | [], [], _ => trivial
  | _ :: _, _ :: _, ⟨h1, h2⟩ => ⟨E.keep h1 hg (by simp), RepL.kept hg h2⟩
theorem Sl.build {α : Type} {E : Enc α} {w : World} {t : TypeId} {cs : Array Value} {xs : List α} {n : Nat} (css : List (List Value)) (hn : xs.length = n) (hr : RepL E w css xs) (hc : cs.toList = css.flatten) (hb : n ≤ 9223372036854775807) : Sl E TT (w.alloc (.cells cs t)) (.slice (some ⟨w.heap.size, 0, none⟩) n n) xs := by
  subst hn
  obtain ⟨h1, h2⟩ := (hr.kept (World.grownBy_alloc w (.cells cs t) none)).out
  exact Sl.block (Bk.new w t cs) trivial css h1 h2 hc (Nat.le_refl _) hb
end Go.Proofs.YthicondcjeipfaaGreatDoor

namespace Go.Proofs.YthicondcjeipfaaGreatDoor
open Go

section
variable {P : Program} {ops : Array Oper} {Q : Exit → Act → World → Prop} {n : Nat} {a0 : Act} {w0 : World}

def ToldC (u : Value) (dst : Option Tmp) (ds : List Deferred) (K : World → Prop) : Exit → Act → World → Prop := fun e a' w' => e = .normal ∧ a'.defers = ds ∧ (match dst with | some d => a'.eval (.tmp d) | none => undef) = u ∧ K w'
def FlagR (P : Program) (ops : Array Oper) (n : Nat) (a0 : Act) (C : Array Bool → World → Prop) (us : List Value) : Nat → Nat → List Oper → Prop
  | 0, _, _ => True
  | _ + 1, _, [] => False
  | k + 1, i, o :: os => (∃ js : List (Nat × Tmp), (pairB ops i js && lookB ops n i js) = true ∧ ∀ D w, D.size = ops.size → D.getD i false = false → (∀ k, av ops i n k = false → D.getD k false = false) → C D w → Ask P ops (us.map Pv.eq) (ToldC (us.getD i undef) o.dst a0.defers (C (D.setIfInBounds i true))) o w js a0) ∧ FlagR P ops n a0 C us k (i + 1) os
theorem FlagR.out {C : Array Bool → World → Prop} {us : List Value} : ∀ {k i : Nat} {os : List Oper}, FlagR P ops n a0 C us k i os → ∀ m o, m < k → os[m]? = some o → ∃ js : List (Nat × Tmp), (pairB ops (i + m) js && lookB ops n (i + m) js) = true ∧ ∀ D w, D.size = ops.size → D.getD (i + m) false = false → (∀ k, av ops (i + m) n k = false → D.getD k false = false) → C D w → Ask P ops (us.map Pv.eq) (ToldC (us.getD (i + m) undef) o.dst a0.defers (C (D.setIfInBounds (i + m) true))) o w js a0
  | 0, _, _, _, m, o, hm, _ => by omega
  | _ + 1, _, [], h, _, _, _, _ => h.elim
  | k + 1, i, o :: os, h, m, o', hm, ho => by
    cases m with
    | zero =>
      obtain rfl : o = o' := by simpa using ho
      exact h.1
    | succ m =>
      have := FlagR.out h.2 m o' (by omega) (by simpa using ho)
      rwa [show i + 1 + m = i + (m + 1) by omega] at this
theorem FlagR.step {C : Array Bool → World → Prop} {us : List Value} {k i : Nat} {o : Oper} {os : List Oper} (js : List (Nat × Tmp)) (hc : (pairB ops i js && lookB ops n i js) = true) (hA : ∀ D w, D.size = ops.size → D.getD i false = false → (∀ k, av ops i n k = false → D.getD k false = false) → C D w → Ask P ops (us.map Pv.eq) (ToldC (us.getD i undef) o.dst a0.defers (C (D.setIfInBounds i true))) o w js a0) (h : FlagR P ops n a0 C us k (i + 1) os) : FlagR P ops n a0 C us (k + 1) i (o :: os) := ⟨⟨js, hc, hA⟩, h⟩
end
end Go.Proofs.YthicondcjeipfaaGreatDoor

namespace Go.Proofs.YthicondcjeipfaaGreatDoor
open Go.RowKit

theorem add_gr (a b m : Int) (w : World) (ha : U64 a) (hb : U64 b) :
    Calls Tryz.prog 78 #[.int .u64 a, .int .u64 b, .int .u64 m] w fun e w' => e = .returned (.int .u64 (addI a b m)) ∧ w.grownBy w' none :=
  (add_any a b m w ha hb).mono fun _ _ ⟨he, n, hn⟩ => ⟨he, by rw [hn]; exact grownBy_drewN (World.grownBy.refl w none) n⟩
theorem mul_gr (a b m : Int) (w : World) (ha : U64 a) (hb : U64 b) :
    Calls Tryz.prog 79 #[.int .u64 a, .int .u64 b, .int .u64 m] w fun e w' => e = .returned (.int .u64 (mulI a b m)) ∧ w.grownBy w' none :=
  (mul_any a b m w ha hb).mono fun _ _ ⟨he, n, hn⟩ => ⟨he, by rw [hn]; exact grownBy_drewN (World.grownBy.refl w none) n⟩
end Go.Proofs.YthicondcjeipfaaGreatDoor

namespace Go.Proofs.YthicondcjeipfaaGreatDoor
open Go

section
variable {P : Program} {ops : Array Oper} {md : Region.Mode} {Q : Exit → Act → World → Prop} {n nn : Nat} {a0 : Act} {w0 : World}
def FinI (nn : Nat) (P : Program) (ops : Array Oper) (Q : Exit → Act → World → Prop) (w : World) : List Pv → List Oper → Act → Prop
  | V :: Vs, o :: os, a => ∀ x, V.p x w → FinI nn P ops Q w Vs os (a.put o.dst x)
  | _, os, a => wpListIn Fence.wide nn P ops Q os a w
theorem FinI.cut {w : World} : ∀ {Vs : List Pv} {os : List Oper} {a : Act}, Vs.length ≤ os.length → FinI nn P ops Q w Vs os a → Fin' (fun a w => wpListIn Fence.wide nn P ops Q (os.drop Vs.length) a w) w Vs (os.take Vs.length) a
  | [], os, a, _, h => by
    have h : wpListIn Fence.wide nn P ops Q os a w := by cases os <;> exact h
    exact h
  | V :: Vs, [], a, hl, _ => by simp at hl
  | V :: Vs, o :: os, a, hl, h => fun x hx => FinI.cut (Vs := Vs) (os := os) (by simpa using hl) (h x hx)
end
end Go.Proofs.YthicondcjeipfaaGreatDoor

namespace Go.Proofs.YthicondcjeipfaaGreatDoor
open Go Go.RowKit

section
variable {F : Fence} {n : Nat} {P : Program}
/-- An iterator that goes to its end: of each thing x handed over, Fx x is known where yield is called. -/
def SeqGoes {α : Type} (F : Fence) (n : Nat) (P : Program) (g : Nat) (lb : Array Value) (encs : α → Array Value) (Fx : α → World → Prop) (Kp : World → World → Prop) (S : List α → Prop) (N : Nat) (w : World) : Prop :=
  ∀ (l : Nat) (J : List α → World → Prop) (W : World), Below w.heap.size w W → AbidesFrom W.heap.size J →
    (∀ pre x V, J pre V → Fx x V → pre.length < N → YieldAt F (n - 1) P l (encs x) V fun e V' => e = .returned (.bool true) ∧ J (pre ++ [x]) V' ∧ Kp V V') →
    J [] W → CallsIn F n P g (#[.func (.yield l) #[] #[]] ++ lb) W fun e W' => (∃ v, e = .returned v) ∧ ∃ xs, S xs ∧ J xs W'
/-- How the body ends. -/
def GoesOn {α : Type} (B : Nat) (Kp : World → World → Prop) (I : List α → World → Prop) (xs : List α) (W : World) : Exit → Act → World → Prop := fun e _ W' => e = .normal ∧ KeepsFrom B W W' ∧ Kp W W' ∧ I xs W'
/-- The loop's own record, and the block of what is put off. -/
structure Recs (B : Nat) (r : Loop) (W : World) : Prop where
  lp : W.heap[B + 1]? = some (.loop r)
  df : W.heap[B]? = some (.deferred (some []))
theorem Recs.from {B : Nat} {r : Loop} {W W' : World} (h : Recs B r W) (hk : KeepsFrom B W W') : Recs B r W' := ⟨hk.same _ _ (by omega) h.lp rfl, hk.same _ _ (Nat.le_refl _) h.df rfl⟩
theorem Recs.put {B : Nat} {r : Loop} {W : World} (h : Recs B r W) (r' : Loop) : Recs B r' (W.putObj (B + 1) (.loop r')) := ⟨World.putObj_heap_same (Array.getElem?_eq_some_iff.1 h.lp).1, (World.putObj_heap_other (by omega)).trans h.df⟩
theorem Recs.walk {B : Nat} {r : Loop} {W W' : World} {row : Option Nat} (h : Recs B r W) (hg : W.grownBy W' row) (hr : ∀ k, row = some k → ∃ o : Obj, W.heap[k]? = some o ∧ o.isWalk = true) : Recs B r W' := ⟨(grownBy_keeps hg hr h.lp rfl).trans h.lp, (grownBy_keeps hg hr h.df rfl).trans h.df⟩
theorem wpIn_rangeFunc_goes {α : Type} {g : Operand} {ps : Array Tmp} {assign body : Code} {Q : Exit → Act → World → Prop} {a : Act} {w : World} (hro : F.round = none) (h1 : 1 ≤ n) {gf : Nat} {lb : Array Value} (hg : a.eval g = .func (.func gf) #[] lb) (hFg : F.fn gf)
    (eg : ∀ args w, (callFunc gf args).run P w = .ok (.enter gf args) w) {encs : α → Array Value} {Fx : α → World → Prop} {Kp : World → World → Prop} {S : List α → Prop} {N : Nat} {w0 : World} (hseq : SeqGoes F (n - 1) P gf lb encs Fx Kp S N w0)
    (hKt : ∀ {A B C : World}, Kp A B → Kp B C → Kp A C) (hKb : ∀ (W : World) (l : Nat) (o o' : Obj), w.heap.size ≤ l → W.heap[l]? = some o → o.isCells = false → o.isWalk = false → Kp W (W.putObj l o')) (hb0 : Below w0.heap.size w0 w) (hps : ∀ x, (encs x).size = ps.size)
    (I : List α → World → Prop) (hI : OwnFrom w.heap.size I) (h0 : I [] w) (Ax : α → Act → World → Prop) (hAx : ∀ x a', OwnFrom w.heap.size (fun (_ : Unit) W => Ax x a' W))
    (hassign : ∀ (l : Nat) (pre : List α) (x : α) (W : World) (K : Act → World → Prop), I pre W → Fx x W → (∀ a' W', KeepsFrom w.heap.size W W' → Kp W W' → I pre W' → Ax x a' W' → K a' W') →
      assign.wpIn (F.inRound l) (n - 1 - 1) P (Exit.then K (fun _ _ _ => False)) { tmps := (ps.zip (encs x)).foldl (fun t (p, v) => t.setIfInBounds p v) a.tmps, defers := [] } W)
    (hbody : ∀ (l : Nat) (pre : List α) (x : α) (a' : Act) (W : World), w.heap.size ≤ l → I pre W → Ax x a' W → pre.length < N → body.wpIn (F.inRound l) (n - 1 - 1) P (GoesOn w.heap.size Kp I (pre ++ [x]) W) a' W)
    (hdone : ∀ (D : Nat) (xs : List α) (W : World), w.heap.size ≤ D → S xs → I xs W → W.heap[D]? = some (.deferred (some [])) → Q .normal { a with defers := { target := .collected D, args := #[] } :: a.defers } W) :
    (Code.rangeFunc g ps assign body).wpIn F n P Q a w := by
  refine wpIn_rangeFunc fun fn hfn => ?_
  rw [hro]
  let rec0 : Loop := { state := .ready, pending := none, fn, tmps := a.tmps, params := ps, assign, body, defers := w.heap.size }
  let V0 := (w.alloc (.deferred (some []))).alloc (.loop rec0)
  have hR0 : Recs w.heap.size rec0 V0 := ⟨by have := World.alloc_heap_new (w.alloc (.deferred (some []))) (.loop rec0); rwa [World.size_alloc] at this, (Below.heap_alloc _ _ _ (by simp)).trans (World.alloc_heap_new w _)⟩
  have hV0 : V0.heap.size = w.heap.size + 2 := by simp [V0]
  have hI0 : I [] V0 := hI.alloc _ (hI.alloc _ h0)
  have hB0 : Below w0.heap.size w0 V0 := hb0.trans ((((Below.refl _ w).alloc (Nat.le_refl _) _).alloc (by simp) _).mono hb0.size)
  refine ⟨w.heap.size + 1, [{ target := .collected w.heap.size, args := #[] }], V0, { target := .fn (.func gf) lb, args := #[.func (.yield (w.heap.size + 1)) #[] #[]] }, V0, gf, #[.func (.yield (w.heap.size + 1)) #[] #[]] ++ lb, V0, run_enterLoop_outer _ _ _ _ _, ?_, ?_, ?_, fun _ => h1, ?_⟩
  · simp only [resolve, hg]
    simp [go_sem]
  · intro f' hf'
    simp [Target.leads] at hf'
    subst hf'
    exact hFg
  · simp [invoke, go_sem, eg]
  refine (hseq (w.heap.size + 1) (fun pre W => I pre W ∧ Recs w.heap.size rec0 W) V0 hB0 (fun s A B row hs hgr hr => ⟨hI s A B row hs.1 hgr fun r e => ?_, hs.2.walk hgr fun r e => (hr r e).2⟩) ?_ ⟨hI0, hR0⟩).mono ?_
  · obtain ⟨h2, o, ho, hw⟩ := hr r e
    exact ⟨by rw [hV0] at h2; omega, o, ho, Obj.not_cells_of_walk hw⟩
  · rintro pre x V ⟨hi, hr⟩ hfx hlen
    refine ⟨fn, _, assign, body, run_yield hr.lp (hps x), roundIn_of_wpIn hfn (hassign _ pre x V _ hi hfx fun a' V1 hk1 hp1 hi1 hx1 => ?_)⟩
    have hr1 := hr.from hk1
    refine ⟨_, run_beginRound hr1.lp rfl, ?_⟩
    have hr2 := hr1.put { rec0 with state := .busy }
    have hp2 := hKb V1 (w.heap.size + 1) _ (.loop { rec0 with state := .busy }) (by omega) hr1.lp rfl rfl
    refine wpIn_mono (hbody _ pre x a' _ (by omega) (hI.putObj _ hi1 (by omega) hr1.lp rfl) ((hAx x a').putObj (s := ()) _ hx1 (by omega) hr1.lp rfl) hlen) ?_
    rintro e a3 V3 ⟨rfl, hk3, hp3, hi3⟩
    have hr3 := hr2.from hk3
    refine ⟨_, _, run_endRound none hr3.lp, rfl, ⟨hI.putObj _ hi3 (by omega) hr3.lp rfl, hr3.put rec0⟩, hKt hp1 (hKt (hKt hp2 hp3) (hKb _ _ _ _ (by omega) hr3.lp rfl rfl))⟩
  · rintro e V2 ⟨⟨v, rfl⟩, xs, hS, hi, hr⟩
    exact ⟨none, _, run_endLoop hr.lp (by simp [rec0]), hdone _ xs _ (Nat.le_refl _) hS (hI.putObj _ hi (by omega) hr.lp rfl) ((World.putObj_heap_other (by omega)).trans hr.df)⟩
end
end Go.Proofs.YthicondcjeipfaaGreatDoor

namespace Go.Proofs.YthicondcjeipfaaGreatDoor
open Go Go.RowKit Go.Shelf

attribute [local go_sem] Oper.semAt_some
/-- What a round keeps: what lay below n₀, and four boxes. -/
def Kp4 (n₀ B1 B2 B3 B4 : Nat) (A B : World) : Prop := Below n₀ A B ∧ B.heap[B1]? = A.heap[B1]? ∧ B.heap[B2]? = A.heap[B2]? ∧ B.heap[B3]? = A.heap[B3]? ∧ B.heap[B4]? = A.heap[B4]?
theorem Kp4.refl (n₀ B1 B2 B3 B4 : Nat) (A : World) : Kp4 n₀ B1 B2 B3 B4 A A := ⟨Below.refl _ _, rfl, rfl, rfl, rfl⟩
theorem Kp4.trans {n₀ B1 B2 B3 B4 : Nat} {A B C : World} (h : Kp4 n₀ B1 B2 B3 B4 A B) (k : Kp4 n₀ B1 B2 B3 B4 B C) : Kp4 n₀ B1 B2 B3 B4 A C := ⟨h.1.trans k.1, k.2.1.trans h.2.1, k.2.2.1.trans h.2.2.1, k.2.2.2.1.trans h.2.2.2.1, k.2.2.2.2.trans h.2.2.2.2⟩
theorem Kp4.grown {n₀ B1 B2 B3 B4 : Nat} {A B : World} (hg : A.grownBy B none) (hn : n₀ ≤ A.heap.size) (h1 : B1 < A.heap.size) (h2 : B2 < A.heap.size) (h3 : B3 < A.heap.size) (h4 : B4 < A.heap.size) : Kp4 n₀ B1 B2 B3 B4 A B :=
  ⟨(below_grown hg).mono hn, hg.block _ h1 (by simp), hg.block _ h2 (by simp), hg.block _ h3 (by simp), hg.block _ h4 (by simp)⟩
theorem Kp4.b {n₀ B1 B2 B3 B4 : Nat} {w : World} (hn : n₀ ≤ w.heap.size) (h1 : B1 < w.heap.size) (h2 : B2 < w.heap.size) (h3 : B3 < w.heap.size) (h4 : B4 < w.heap.size) (W : World) (l : Nat) (o o' : Obj) (hl : w.heap.size ≤ l) (h : W.heap[l]? = some o) (k1 : o.isCells = false) (k2 : o.isWalk = false) : Kp4 n₀ B1 B2 B3 B4 W (W.putObj l o') := by
  have hlt := (Array.getElem?_eq_some_iff.1 h).1
  have hg := grownBy_putObj' W l o'
  exact ⟨belowK_b hn W l o o' hl h k1 k2, hg.block _ (by omega) (fun e => by injection e with e; omega), hg.block _ (by omega) (fun e => by injection e with e; omega), hg.block _ (by omega) (fun e => by injection e with e; omega), hg.block _ (by omega) (fun e => by injection e with e; omega)⟩
end Go.Proofs.YthicondcjeipfaaGreatDoor

namespace Go.Proofs.YthicondcjeipfaaGreatDoor
open Go Go.RowKit Go.Shelf

attribute [local go_sem] Oper.semAt_some
/-- The round of share: what it was begun with. -/
structure ShE where
  w : World
  W0 : World
  W : World
  q : Int
  p1 : Int
  p2 : Int
  p1' : Int
  p2' : Int
  B1 : Nat
  B2 : Nat
  C1 : Nat
  C2 : Nat
  C3 : Nat
  C4 : Nat
structure ShE.Ok (e : ShE) : Prop where
  b1 : e.w.heap.size < e.B1
  b2 : e.w.heap.size < e.B2
  b12 : e.B1 ≠ e.B2
  c1 : e.B1 < e.C1 ∧ e.B2 < e.C1 ∧ e.C1 < e.W0.heap.size
  c2 : e.B1 < e.C2 ∧ e.B2 < e.C2 ∧ e.C2 < e.W0.heap.size
  c3 : e.B1 < e.C3 ∧ e.B2 < e.C3 ∧ e.C3 < e.W0.heap.size
  c4 : e.B1 < e.C4 ∧ e.B2 < e.C4 ∧ e.C4 < e.W0.heap.size
/-- Where the world stands, by what was written. -/
structure ShE.At (e : ShE) (x y : Bool) (V : World) : Prop where
  q : Boxed V e.w.heap.size 22 (.int .u64 e.q)
  one : Boxed V e.B1 22 (.int .u64 (if x then e.p1' else e.p1))
  two : Boxed V e.B2 22 (.int .u64 (if y then e.p2' else e.p2))
  from' : KeepsFrom e.W0.heap.size e.W V
  kp : Kp4 e.w.heap.size e.C1 e.C2 e.C3 e.C4 e.W V
  bl : Below e.w.heap.size e.w V
  sz : e.W0.heap.size ≤ V.heap.size
theorem ShE.At.grown {e : ShE} (k : e.Ok) {x y : Bool} {V V' : World} (h : e.At x y V) (hg : V.grownBy V' none) : e.At x y V' := by
  have h1 := k.c1
  have h2 := k.c2
  have h3 := k.c3
  have h4 := k.c4
  have h5 := h.sz
  have h6 := k.b1
  exact ⟨h.q.kept hg (by simp), h.one.kept hg (by simp), h.two.kept hg (by simp), h.from'.trans ((keeps_none hg).from _), h.kp.trans (Kp4.grown hg (by omega) (by omega) (by omega) (by omega) (by omega)), h.bl.trans ((below_grown hg).mono (by omega)), Nat.le_trans h.sz hg.size⟩
/-- .. told by what was listed. -/
def ShE.C (e : ShE) (D : Array Bool) (V : World) : Prop := e.At (D.getD 8 false) (D.getD 9 false) V
theorem ShE.C.grown {e : ShE} (k : e.Ok) {D : Array Bool} {V V' : World} (h : e.C D V) (hg : V.grownBy V' none) (i : Nat) (h8 : i ≠ 8) (h9 : i ≠ 9) : e.C (D.setIfInBounds i true) V' := by
  unfold ShE.C
  rw [getD_set_ne false h8, getD_set_ne false h9]
  exact ShE.At.grown k h hg
theorem ShE.C.one {e : ShE} {D : Array Bool} {V : World} (h : e.C D V) (h8 : D.getD 8 false = false) : Boxed V e.B1 22 (.int .u64 e.p1) := by
  have := ShE.At.one h
  rw [h8] at this
  exact this
theorem ShE.C.two {e : ShE} {D : Array Bool} {V : World} (h : e.C D V) (h9 : D.getD 9 false = false) : Boxed V e.B2 22 (.int .u64 e.p2) := by
  have := ShE.At.two h
  rw [h9] at this
  exact this
end Go.Proofs.YthicondcjeipfaaGreatDoor

namespace Go.Proofs.YthicondcjeipfaaGreatDoor
open Go Go.RowKit Go.Shelf Go.Maps

/-- The numbers of a list, each once. -/
def seenL (l : List Int) : List Int := l.foldl (fun s x => bif s.contains x then s else s ++ [x]) []
theorem seenL_snoc (l : List Int) (x : Int) : seenL (l ++ [x]) = bif (seenL l).contains x then seenL l else seenL l ++ [x] := by simp only [seenL, List.foldl_append, List.foldl_cons, List.foldl_nil]
/-- A map of what was met. -/
def Met' (D : DataW Unit) (pre : List Int) : Prop := Maps.Tidy D ∧ Maps.size D = (seenL pre).length ∧ ∀ x, Maps.has D (.int .u64 x) = (seenL pre).contains x
theorem Met'.nil : Met' (.map []) [] := ⟨tidy_empty, rfl, fun _ => rfl⟩
theorem Met'.put {D : DataW Unit} {pre : List Int} (h : Met' D pre) (x : Int) (d : DataW Unit) : Met' (D.put (.int .u64 x) d) (pre ++ [x]) := by
  obtain ⟨h1, h2, h3⟩ := h
  have hk : WideAt.IsKeyLit (.int .u64 x) := trivial
  refine ⟨h1.put hk d, ?_, fun y => ?_⟩
  · rw [size_put h1, h3 x, seenL_snoc]
    cases (seenL pre).contains x
    · simp [h2]
    · simp [h2]
  · rw [seenL_snoc]
    by_cases e : y = x
    · subst e
      rw [has_put_same h1.isMap hk]
      cases hc : (seenL pre).contains y
      · simp
      · simp only [cond_true, hc]
    · rw [has_put_other (by intro e'; injection e' with _ e'; exact e e'), h3 y]
      cases (seenL pre).contains x
      · have e' : (y == x) = false := by simpa using e
        simp [e]
      · rfl
end Go.Proofs.YthicondcjeipfaaGreatDoor

namespace Go.Proofs.YthicondcjeipfaaGreatDoor
open Go Go.RowKit Go.Shelf

end Go.Proofs.YthicondcjeipfaaGreatDoor

namespace Go.Proofs.YthicondcjeipfaaGreatDoor
open Go Go.RowKit Go.Shelf

/-- Whether K and D are within their bounds. -/
def smallB (p : Par) : Bool := decide (0 ≤ p.K ∧ 0 ≤ p.D ∧ p.K ≤ 2 ∧ p.D ≤ 4)
end Go.Proofs.YthicondcjeipfaaGreatDoor

namespace Go.Proofs.YthicondcjeipfaaGreatDoor
open Go Go.RowKit Go.Shelf

end Go.Proofs.YthicondcjeipfaaGreatDoor

namespace Go.Proofs.YthicondcjeipfaaGreatDoor
open Go Go.RowKit Go.Shelf

end Go.Proofs.YthicondcjeipfaaGreatDoor

namespace Go.Proofs.YthicondcjeipfaaGreatDoor
open Go Go.RowKit Go.Shelf

end Go.Proofs.YthicondcjeipfaaGreatDoor

namespace Go.Proofs.YthicondcjeipfaaGreatDoor
open Go Go.RowKit

/-- A list of a column that is too short or too long. -/
def shortB (p : Par) (x : List Int) : Bool := !((x.length : Int) == wrap64 (p.T + 1))
end Go.Proofs.YthicondcjeipfaaGreatDoor

namespace Go.Proofs.YthicondcjeipfaaGreatDoor
open Go.RowKit

theorem zero_pair (w : World) (n : Nat) : ((w.drewN n).alloc (Obj.cells #[.int .u64 0, .int .u64 0] 38)).cell? ⟨w.heap.size, 0, none⟩ = some (.int .u64 0) ∧ ((w.drewN n).alloc (Obj.cells #[.int .u64 0, .int .u64 0] 38)).cell? ⟨w.heap.size, 1, none⟩ = some (.int .u64 0) ∧
    ((w.drewN n).alloc (Obj.cells #[.int .u64 0, .int .u64 0] 38)).frozen? ⟨w.heap.size, 0, none⟩ = false ∧ ((w.drewN n).alloc (Obj.cells #[.int .u64 0, .int .u64 0] 38)).frozen? ⟨w.heap.size, 1, none⟩ = false :=
  have h : Bk ((w.drewN n).alloc (Obj.cells #[.int .u64 0, .int .u64 0] 38)) w.heap.size 38 #[.int .u64 0, .int .u64 0] := Bk.new (w.drewN n) _ _
  ⟨h.cell 0, h.cell 1, h.free 0, h.free 1⟩
end Go.Proofs.YthicondcjeipfaaGreatDoor

namespace Go.Proofs.YthicondcjeipfaaGreatDoor
open Go Go.RowKit

end Go.Proofs.YthicondcjeipfaaGreatDoor

namespace Go.Proofs.YthicondcjeipfaaGreatDoor
open Go Go.RowKit

end Go.Proofs.YthicondcjeipfaaGreatDoor

namespace Go.Proofs.YthicondcjeipfaaGreatDoor
open Go Go.RowKit

theorem wrap64_small {n : Int} (h : -9223372036854775808 ≤ n ∧ n ≤ 9223372036854775807) : wrap64 n = n := by unfold wrap64; omega
theorem smallB_secrets {p : Par} (h : smallB p = true) : 0 ≤ secretsI p ∧ secretsI p ≤ 10 := by
  simp [smallB] at h
  obtain ⟨h1, h2, h3, h4⟩ := h
  have e1 : wrap64 (p.D + 1) = p.D + 1 := wrap64_small (by omega)
  have h5 : 0 ≤ p.K * (p.D + 1) := Int.mul_nonneg h1 (by omega)
  have h6 : p.K * (p.D + 1) ≤ 2 * 5 := Int.mul_le_mul h3 (by omega) (by omega) (by omega)
  have e2 : secretsI p = p.K * (p.D + 1) := by unfold secretsI; rw [e1]; exact wrap64_small (by omega)
  rw [e2]
  omega
end Go.Proofs.YthicondcjeipfaaGreatDoor

namespace Go.Proofs.YthicondcjeipfaaGreatDoor
open Go Go.RowKit

end Go.Proofs.YthicondcjeipfaaGreatDoor

namespace Go.Proofs.YthicondcjeipfaaGreatDoor
open Go Go.RowKit

end Go.Proofs.YthicondcjeipfaaGreatDoor

namespace Go.Proofs.YthicondcjeipfaaGreatDoor
open Go Go.RowKit

/-- A dealing that is not as long as it should be. -/
def badB (p : Par) (d : Int × List (List Int)) : Bool := !((d.2.length : Int) == secretsI p) || d.2.any (shortB p)
/-- Two lists built side by side: numbers, and lists of lists that lay there ahead. -/
structure Two (base : Nat) (wx : World) (v6 v7 : Value) (xs : List Int) (cs : List (List (List Int))) : Prop where
  fst : Acc encI base 3 (fun g => base ≤ g ∧ some g ≠ v7.ownBlock) wx v6 xs
  snd : Acc (encS (encS encU)) base 47 (fun g => g < base ∨ some g ≠ v6.ownBlock) wx v7 cs
theorem Two.kept {base : Nat} {wx w' : World} {v6 v7 : Value} {xs : List Int} {cs : List (List (List Int))} (h : Two base wx v6 v7 xs cs) (hg : wx.grownBy w' none) : Two base w' v6 v7 xs cs := ⟨h.fst.kept hg, h.snd.kept hg⟩
theorem Two.one {base : Nat} {wx w' : World} {v6 v7 v6' : Value} {xs xs' : List Int} {cs : List (List (List Int))} (h : Two base wx v6 v7 xs cs) (ha : Acc encI base 3 (fun g => base ≤ g ∧ some g ≠ v7.ownBlock) w' v6' xs') (hg : wx.grownBy w' v6.ownBlock) (hm : Moved wx v6 v6') : Two base w' v6' v7 xs' cs := by
  refine ⟨ha, ?_⟩
  have h1 : Acc (encS (encS encU)) base 47 (fun g => (g < base ∨ some g ≠ v6'.ownBlock) ∧ some g ≠ v6.ownBlock) wx v7 cs := h.snd.more fun g hg hx => by
    rcases hx with hx | hx
    · exact ⟨.inl hx, fun e => by have := (h.fst.lt g e.symm).1; omega⟩
    · exact ⟨.inr fun e => hm.ne hg (fun e' => hx e'.symm) e.symm, hx⟩
  exact (h1.keep hg fun g hx => hx.2).more fun g _ hx => hx.1
theorem Two.two {base : Nat} {wx w' : World} {v6 v7 v7' : Value} {xs : List Int} {cs cs' : List (List (List Int))} (h : Two base wx v6 v7 xs cs) (ha : Acc (encS (encS encU)) base 47 (fun g => g < base ∨ some g ≠ v6.ownBlock) w' v7' cs') (hg : wx.grownBy w' v7.ownBlock) (hm : Moved wx v7 v7') : Two base w' v6 v7' xs cs' := by
  refine ⟨?_, ha⟩
  have h1 : Acc encI base 3 (fun g => (base ≤ g ∧ some g ≠ v7'.ownBlock) ∧ some g ≠ v7.ownBlock) wx v6 xs := h.fst.more fun g hg hx => ⟨⟨hx.1, fun e => hm.ne hg (fun e' => hx.2 e'.symm) e.symm⟩, hx.2⟩
  exact (h1.keep hg fun g hx => hx.2).more fun g _ hx => hx.1
theorem Two.hZ {base : Nat} {wx : World} {v6 v7 : Value} {xs : List Int} {cs : List (List (List Int))} (h : Two base wx v6 v7 xs cs) {w' : World} : ∀ (c : List Value) (y : List (List Int)), (encS (encS encU)).rep (fun g => g < base) w' c y → (encS (encS encU)).rep (fun g => (g < base ∨ some g ≠ v6.ownBlock) ∧ some g ≠ v7.ownBlock) w' c y := fun c y hr => (encS (encS encU)).more hr fun g _ hx => ⟨.inl hx, fun e => by have := (h.snd.lt g e.symm).1; omega⟩
/-- The first j dealings are as long as they should be. -/
def OkTo (p : Par) (deals : List (Int × List (List Int))) (j : Nat) : Prop := ∀ i (h : i < deals.length), i < j → badB p deals[i] = false
theorem OkTo.all {p : Par} {deals : List (Int × List (List Int))} (h : OkTo p deals deals.length) : ∀ d ∈ deals, badB p d = false := fun d hd => by
  obtain ⟨i, hi, rfl⟩ := List.getElem_of_mem hd
  exact h i hi hi
theorem grown_two {w : World} {a b : Obj} : w.grownBy ((w.alloc a).alloc b) none := (World.grownBy_alloc w _ none).trans (World.grownBy_alloc _ _ none)
theorem Bk.one {w : World} {b : Nat} {t : TypeId} {u : Value} (h : Bk w b t #[u]) : ∀ j v, [u][j]? = some v → w.cell? ⟨b, j, none⟩ = some v := fun j v hv => by rw [h.cell j]; simpa using hv
section
variable {α : Type} {P : Program} {E : Enc α} {base : Nat} {e : TypeId} {X : Nat → Prop} {w : World} {v : Value} {xs : List α}
/-- append(out, y): the thing y lies in a block that is known. -/
theorem pushAt_core {cs : List Value} {y : α} {t : TypeId} {bytes b c : Nat} (hE : ElemOk P t e E.size bytes) (hacc : Acc E base e X w v xs) (hrep : E.rep (fun g => X g ∧ some g ≠ v.ownBlock) w cs y) (hcell : ∀ j u, cs[j]? = some u → w.cell? ⟨b, j, none⟩ = some u)
    (hlen : (xs.length + 1) * bytes ≤ 140737488355328) (hb : base ≤ w.heap.size) (hN : ∀ g, w.heap.size ≤ g → X g)
    {o : Oper} {a : Act} {K : Act → World → Prop} {Q : Exit → Act → World → Prop} (s x : Operand)
    (ho : o.op = .call { callee := .builtin .append, args := #[s, x], argTypes := #[t, t] }) (hs : a.eval s = v) (hx : a.eval x = .slice (some ⟨b, 0, none⟩) 1 c)
    (h : ∀ v' w', Acc E base e X w' v' (xs ++ [y]) → w.grownBy w' v.ownBlock → Moved w v v' → K (a.put o.dst v') w') : o.wp P a w K Q := by
  obtain ⟨_, css, h1, _, h3⟩ := id hacc
  have hcl := E.len hrep
  refine wp_app s x t ho (size := E.size) hE E.pos hs h3 (some ⟨b, 0, none⟩) 1 c cs hx (by rw [hcl, Nat.one_mul]) (by simp) ?_ (E.ones hrep) hlen hb ?_
  · intro ad e' j u hu
    injection e' with e'
    subst e'
    rw [← hcell j u hu]
    unfold Addr.add
    split
    · rename_i h0
      have : j = 0 := by simpa using h0
      subst this
      rfl
    · simp
  · intro v' w' hown hg hat
    have hat' : Moved w v v' := hat.imp id fun e => ⟨_, Nat.le_refl _, e⟩
    refine h v' w' (hacc.app (cs2 := [cs]) (ys := [y]) rfl (fun i hi hi' => ?_) (fun css' hc' => ?_) hg hat' hN) hg hat'
    · have : i = 0 := by simp at hi; omega
      subst this
      exact hrep
    · have e1 : css' = css.flatten := own_same hc' h3
      rw [e1]
      simpa using hown
end
end Go.Proofs.YthicondcjeipfaaGreatDoor

namespace Go.Proofs.YthicondcjeipfaaGreatDoor
open Go Go.RowKit

/-- A tape to which pa points (block g's, or nobody's): what its k-th draw below q is, and how it lies when k were made; bl: the blocks that it has. -/
structure TpP (pa : Option Addr) (g : Nat) (q : Int) (dr : Nat → Int) (TI : Nat → World → Prop) (bl : Nat → Prop) (most : Nat) : Prop where
  own : bl g
  old : ∀ {k w b}, TI k w → bl b → b < w.heap.size
  val : ∀ k, U64 (dr k)
  keep : ∀ {k w w'} {row : Option Nat}, TI k w → w.grownBy w' row → (∀ b, row = some b → ¬ bl b) → TI k w'
  next : ∀ {k w}, k < most → TI k w → Calls Tryz.prog 27 #[.pointer pa, .int .u64 q] w fun e w' => e = .returned (.int .u64 (dr k)) ∧ TI (k + 1) w' ∧ w.grownBy w' (some g)
abbrev Tp (g : Nat) := TpP (some ⟨g, 0, none⟩) g
theorem dsecrets_any (p : Par) (w : World) :
    Calls Tryz.prog 25 #[p.v] w fun e w' => e = .returned (.int .i64 (secretsI p)) ∧ w.grownBy w' none := by
  go_enter Tryz.func25, Tryz.ntmps25
  go_wp2
  go_ret
  exact ⟨rfl, World.grownBy_alloc w _ none⟩
theorem Acc.made1 (w : World) (e : TypeId) {B : Nat} (hB : B ≤ w.heap.size) (X : Nat → Prop) (hX : X w.heap.size) (z : Int) (hz : U64 z) : Acc encU B e X (w.alloc (.cells #[.int .u64 z] e)) (.slice (some ⟨w.heap.size, 0, none⟩) 1 1) [z] :=
  ⟨fun g hg => by simp [Value.ownBlock] at hg; subst hg; exact hX, [[.int .u64 z]], rfl, fun i hi hi' => by
    obtain rfl : i = 0 := by simp at hi; omega
    exact ⟨rfl, hz⟩, ⟨by simp [encU], .inr ⟨w.heap.size, 1, #[.int .u64 z], rfl, hB, heap_alloc_new w _, Nat.le_refl _, by decide, rfl, by simp [encU]⟩⟩⟩
/-- A number, modulo q, with n draws behind it, the first of them the k-th. -/
def behI (x q : Int) (dr : Nat → Int) (n k : Nat) : List Int := x % q :: (List.range n).map fun j => dr (k + j)
theorem behI_succ (x q : Int) (dr : Nat → Int) (n k : Nat) : behI x q dr (n + 1) k = behI x q dr n k ++ [dr (k + n)] := by
  simp [behI, List.range_succ]
theorem behI_len (x q : Int) (dr : Nat → Int) (n k : Nat) : (behI x q dr n k).length = n + 1 := by simp [behI]
set_option maxHeartbeats 1000000 in
theorem behind_any {pa : Option Addr} {g : Nat} {q : Int} {dr : Nat → Int} {TI : Nat → World → Prop} {bl : Nat → Prop} {most : Nat} (hT : TpP pa g q dr TI bl most) (x : Int) (n k : Nat) (w : World) (hx : U64 x) (hq : U64 q) (hq0 : 0 < q) (hn : n ≤ 1000) (hk : k + n ≤ most) (hI : TI k w) :
    Calls Tryz.prog 42 #[.int .u64 x, .int .i64 n, .int .u64 q, .func (.func 27) #[.pointer pa] #[]] w fun e w' => ∃ v, e = .returned v ∧ Sl encU (fun b => w.heap.size ≤ b) w' v (behI x q dr n k) ∧ TI (k + n) w' ∧ w.grownBy w' (some g) := by
  have HT := Lib.hid hT
  obtain ⟨q0, q1⟩ := hq
  obtain ⟨x0, x1⟩ := hx
  have hqz : (q == 0) = false := by simp; omega
  have hqz2 : ¬ q = 0 := by omega
  have hmod : Int.tmod x q = x % q := Int.tmod_eq_emod_of_nonneg x0
  obtain ⟨z, hz⟩ : ∃ y, y = x % q := ⟨_, rfl⟩
  have HZ : Hid (U64 z) := Lib.hid (by rw [hz]; exact ⟨Int.emod_nonneg _ (by omega), Int.lt_trans (Int.emod_lt_of_pos _ hq0) (by omega)⟩)
  have hzw : IntKind.u64.wrap z = z := IntWalk.u64_in _ (by have := HZ.out; obtain ⟨a, b⟩ := this; omega)
  have HGW : Hid (g < w.heap.size) := Lib.hid (hT.old hI hT.own)
  obtain ⟨w1, hw1⟩ : ∃ y, y = w.alloc (Obj.cells #[.int .u64 z] 22) := ⟨_, rfl⟩
  have HG1 : Hid (w.grownBy w1 none) := Lib.hid (by rw [hw1]; exact World.grownBy_alloc w _ none)
  have HA1 : Hid (Acc encU w.heap.size 22 (fun b => w.heap.size ≤ b) w1 (.slice (some ⟨w.heap.size, 0, none⟩) 1 1) (behI x q dr 0 k)) := Lib.hid (by
    rw [hw1, show behI x q dr 0 k = [z] by simp [behI, hz]]
    exact Acc.made1 w _ (Nat.le_refl _) _ (Nat.le_refl _) z HZ.out)
  have HI1 : Hid (TI k w1) := Lib.hid (hT.keep hI HG1.out (by simp))
  have HOB : Hid (∀ b, bl b → b < w.heap.size) := Lib.hid (fun b hb => hT.old hI hb)
  have e1 : x % q = z := hz.symm
  rw [e1] at hmod
  clear hT hI hz
  go_enter Tryz.func42, Tryz.ntmps42
  go_wp2_with fail
  rw [← hw1]
  clear hw1
  go_loopg [9, 15] n (fun gk s9 s15 wx => ∃ j : Nat, j + gk = n ∧ s15 = .int .i64 j ∧ Hid (Acc encU w.heap.size 22 (fun b => w.heap.size ≤ b) wx s9 (behI x q dr j k) ∧ TI (k + j) wx ∧ w.grownBy wx (some g)))
  case atStart => exact ⟨0, by omega, rfl, Lib.hid ⟨HA1.out, HI1.out, HG1.out.but _⟩⟩
  case round =>
    obtain ⟨j, hj, rfl, HX⟩ := hrel
    cases gk with
    | zero =>
      obtain rfl : j = n := by omega
      have HR : Hid (Sl encU (fun b => w.heap.size ≤ b) wr u9 (behI x q dr j k) ∧ TI (k + j) wr ∧ w.grownBy wr (some g)) := Lib.hid ⟨HX.out.1.sl, HX.out.2⟩
      have hno : ¬ ((j : Int) < (j : Int)) := by omega
      clear HX
      go_wp2
      go_ret
      exact ⟨_, rfl, HR.out⟩
    | succ m =>
      have hjn : (j : Int) < (n : Int) := by omega
      have HC := Lib.hid (HT.out.next (by omega) HX.out.2.1)
      have HA := Lib.hid HX.out.1
      have HG := Lib.hid HX.out.2.2
      have HV := Lib.hid (HT.out.val (k + j))
      have HSN := Lib.hid (behI_succ x q dr j k)
      have HLB : Hid (((behI x q dr j k).length + 1) * 8 ≤ 140737488355328) := Lib.hid (by rw [behI_len]; omega)
      obtain ⟨y, hy⟩ : ∃ y, y = dr (k + j) := ⟨_, rfl⟩
      rw [← hy] at HC HV HSN
      clear HX hy
      go_wp2_with fail
      refine HC.out.mono ?_
      rintro e w2 ⟨rfl, hi2, hg2⟩
      have HA2 := Lib.hid (HA.out.keep hg2 (fun b hb e => by injection e with e; have := HGW.out; omega))
      have HI2 := Lib.hid hi2
      have HG2 : Hid (w.grownBy w2 (some g)) := Lib.hid (HG.out.trans hg2)
      have HSZ : Hid (w.heap.size ≤ w2.heap.size) := Lib.hid HG2.out.size
      clear hi2 hg2
      go_wp2_with (at_builtin; refine wpList_push rfl (.tmp 17) (.tmp 21) rfl (E := encU) (y := y) el_u64 HA2.out rfl rfl ⟨rfl, HV.out⟩ HLB.out HSZ.out (fun _ h => Nat.le_trans HSZ.out h) ?_)
      intro v9 w3 ha hg hm
      have HFIN : Hid (Acc encU w.heap.size 22 (fun b => w.heap.size ≤ b) w3 v9 (behI x q dr (j + 1) k) ∧ TI (k + (j + 1)) w3 ∧ w.grownBy w3 (some g)) := Lib.hid ⟨by rw [HSN.out]; exact ha, HT.out.keep HI2.out hg (fun b e hb => by have := (HA2.out.lt b e).1; have := HOB.out b hb; omega), HG2.out.andThen hg (fun b e => .inl (HA2.out.lt b e).1)⟩
      clear ha hg hm
      go_wp2_with fail
      go_roundg m
      case measure => omega
      case rel => exact ⟨j + 1, by omega, by go_num, HFIN⟩
end Go.Proofs.YthicondcjeipfaaGreatDoor

namespace Go.Proofs.YthicondcjeipfaaGreatDoor
open Go Go.RowKit Go.Shelf

attribute [local go_sem] Oper.semAt_some
theorem Sl.cap {α : Type} {E : Enc α} {X : Nat → Prop} {w : World} {A : Option Addr} {n c : Nat} {xs : List α} (h : Sl E X w (.slice A n c) xs) (c' : Nat) (h1 : n ≤ c') (h2 : c' ≤ 9223372036854775807) : Sl E X w (.slice A n c') xs := by
  obtain ⟨A', c0, e, _, _, h3⟩ := h
  injection e with e1 e2 _
  subst e1 e2
  exact ⟨_, c', rfl, h1, h2, h3⟩
end Go.Proofs.YthicondcjeipfaaGreatDoor

namespace Go.Proofs.YthicondcjeipfaaGreatDoor
open Go

/-- Where the worlds stand when some late operations are over, these having told values; and what the k-th of them does to what lay there. -/
structure Lt where
  C : List Value → World → Prop
  R : Nat → World → World → Prop
  g : ∀ {vs w w'}, C vs w → w.grownBy w' none → C vs w'
/-- What is known of a value, and stands: as long as nothing is written, and through the late operations from the fr-th on. -/
structure Qv (L : Lt) where
  p : List Value → Value → World → Prop
  fr : Nat
  st : ∀ {vs v w w'}, p vs v w → w.grownBy w' none → p vs v w'
  sr : ∀ {vs u v w w'}, fr ≤ vs.length → L.C vs w → L.R vs.length w w' → p vs v w → p (vs ++ [u]) v w'
def Qv.any {L : Lt} : Qv L := ⟨fun _ _ _ => True, 0, fun _ _ => trivial, fun _ _ _ _ => trivial⟩
def Qv.eq {L : Lt} (u : Value) : Qv L := ⟨fun _ v _ => v = u, 0, fun h _ => h, fun _ _ _ h => h⟩
/-- What the q-th late operation has told. -/
def Qv.slot {L : Lt} (q : Nat) : Qv L := ⟨fun vs v _ => vs[q]? = some v, q + 1, fun h _ => h, fun _ _ _ h => by
  have := (List.getElem?_eq_some_iff.1 h).1
  rw [List.getElem?_append_left this]
  exact h⟩
section
variable {L : Lt} {late : List Nat} {P : Program} {ops : Array Oper} {Q : Exit → Act → World → Prop} {n : Nat} {a0 : Act} {w0 : World}

def ToldL (T : Value → World → Prop) (dst : Option Tmp) (ds : List Deferred) : Exit → Act → World → Prop := fun e a' w' => e = .normal ∧ a'.defers = ds ∧ T (match dst with | some d => a'.eval (.tmp d) | none => undef) w'
def Ask' (P : Program) (ops : Array Oper) (vs : List Value) (Vs : List (Qv L)) (Qt : Exit → Act → World → Prop) (o : Oper) (w : World) : List (Nat × Tmp) → Act → Prop
  | [], a => wpList P ops Qt [o] a w
  | (j, d) :: js, a => ∀ x, (Vs.getD j Qv.any).p vs x w → Ask' P ops vs Vs Qt o w js (a.put (some d) x)
/-- What is asked of one operation. -/
def AskL (L : Lt) (late : List Nat) (P : Program) (ops : Array Oper) (Vs : List (Qv L)) (ds : List Deferred) (i : Nat) (V : Qv L) (o : Oper) (js : List (Nat × Tmp)) (a0 : Act) : Prop :=
  (late.contains i = false ∧ V.fr = 0 ∧ ∀ vs w, L.C vs w → Ask' P ops vs Vs (ToldL (fun v w' => V.p vs v w' ∧ w.grownBy w' none) o.dst ds) o w js a0) ∨
  (∃ q, late[q]? = some i ∧ V = Qv.slot q ∧ ∀ vs w, vs.length = q → L.C vs w → Ask' P ops vs Vs (ToldL (fun v w' => L.R q w w' ∧ L.C (vs ++ [v]) w') o.dst ds) o w js a0)
def LateR (L : Lt) (late : List Nat) (P : Program) (ops : Array Oper) (n : Nat) (a0 : Act) (F : List (Qv L) → Prop) : Nat → List (Qv L) → List Oper → Prop
  | 0, Rs, _ => F Rs.reverse
  | _ + 1, _, [] => False
  | k + 1, Rs, o :: os => ∃ (V : Qv L) (js : List (Nat × Tmp)), (pairB ops Rs.length js && lookB ops n Rs.length js) = true ∧ AskL L late P ops Rs.reverse a0.defers Rs.length V o js a0 ∧ LateR L late P ops n a0 F k (V :: Rs) os
theorem LateR.mono {F : List (Qv L) → Prop} {k : Nat} {Rs : List (Qv L)} {o : Oper} {os : List Oper} (V : Qv L) (js : List (Nat × Tmp)) (hc : (pairB ops Rs.length js && lookB ops n Rs.length js) = true) (hl : late.contains Rs.length = false) (hf : V.fr = 0) (hA : ∀ vs w, L.C vs w → Ask' P ops vs Rs.reverse (ToldL (fun v w' => V.p vs v w' ∧ w.grownBy w' none) o.dst a0.defers) o w js a0) (h : LateR L late P ops n a0 F k (V :: Rs) os) : LateR L late P ops n a0 F (k + 1) Rs (o :: os) := ⟨V, js, hc, .inl ⟨hl, hf, hA⟩, h⟩
theorem LateR.turn {F : List (Qv L) → Prop} {k : Nat} {Rs : List (Qv L)} {o : Oper} {os : List Oper} (q : Nat) (js : List (Nat × Tmp)) (hc : (pairB ops Rs.length js && lookB ops n Rs.length js) = true) (hl : late[q]? = some Rs.length) (hA : ∀ vs w, vs.length = q → L.C vs w → Ask' P ops vs Rs.reverse (ToldL (fun v w' => L.R q w w' ∧ L.C (vs ++ [v]) w') o.dst a0.defers) o w js a0) (h : LateR L late P ops n a0 F k (Qv.slot q :: Rs) os) : LateR L late P ops n a0 F (k + 1) Rs (o :: os) := ⟨Qv.slot q, js, hc, .inr ⟨q, hl, rfl, hA⟩, h⟩
theorem LateR.out {F : List (Qv L) → Prop} : ∀ {k : Nat} {Rs : List (Qv L)} {os : List Oper}, LateR L late P ops n a0 F k Rs os → k ≤ os.length ∧ ∃ Ws : List (Qv L), Ws.length = k ∧ F (Rs.reverse ++ Ws) ∧ ∀ m o, m < k → os[m]? = some o → ∃ V js, Ws[m]? = some V ∧ (pairB ops (Rs.length + m) js && lookB ops n (Rs.length + m) js) = true ∧ AskL L late P ops ((Rs.reverse ++ Ws).take (Rs.length + m)) a0.defers (Rs.length + m) V o js a0
  | 0, Rs, os, h => ⟨Nat.zero_le _, [], rfl, by rw [List.append_nil]; exact h, fun m o hm => by omega⟩
  | _ + 1, _, [], h => h.elim
  | k + 1, Rs, o :: os, ⟨V, js, hb, hA, hM⟩ => by
    obtain ⟨hkl, Ws, hl, hF, hk⟩ := LateR.out hM
    refine ⟨by simpa using hkl, V :: Ws, by simp [hl], by simpa using hF, fun m o' hm ho => ?_⟩
    cases m with
    | zero =>
      obtain rfl : o = o' := by simpa using ho
      refine ⟨V, js, rfl, hb, ?_⟩
      have : (Rs.reverse ++ V :: Ws).take (Rs.length + 0) = Rs.reverse := by
        rw [Nat.add_zero, ← List.length_reverse]
        exact List.take_left
      rw [this]
      exact hA
    | succ m =>
      obtain ⟨V', js', h1, h2, h3⟩ := hk m o' (by omega) (by simpa using ho)
      refine ⟨V', js', by simpa using h1, ?_, ?_⟩
      · simpa [Nat.add_assoc, Nat.add_comm 1 m] using h2
      · simpa [Nat.add_assoc, Nat.add_comm 1 m] using h3
def FinL' (G : Act → World → Prop) (vs : List Value) (w : World) : List (Qv L) → List Oper → Act → Prop
  | V :: Vs, o :: os, a => ∀ x, V.p vs x w → FinL' G vs w Vs os (a.put o.dst x)
  | _, _, a => G a w
theorem FinL'.all {G : Act → World → Prop} {vs : List Value} {w : World} {b : Act} : ∀ {Vs : List (Qv L)} {os : List Oper} {a : Act}, Vs.length = os.length → (∀ (k : Nat) (V : Qv L) (o : Oper), Vs[k]? = some V → os[k]? = some o → V.p vs (match o.dst with | some d => b.eval (.tmp d) | none => undef) w) → FinL' G vs w Vs os a → G (onto b (os.map (·.dst)) a) w
  | [], [], _, _, _, h => h
  | V :: Vs, o :: os, a, hl, hx, h => FinL'.all (Vs := Vs) (os := os) (by simpa using hl) (fun k V o hv ho => hx (k + 1) V o (by simpa using hv) (by simpa using ho)) (h _ (hx 0 V o rfl rfl))
  | [], _ :: _, _, hl, _, _ => by simp at hl
  | _ :: _, [], _, hl, _, _ => by simp at hl
theorem Ask'.all {vs : List Value} {Vs : List (Qv L)} {Qt : Exit → Act → World → Prop} {o : Oper} {w : World} {b : Act} : ∀ {js : List (Nat × Tmp)} {a : Act}, (∀ x : Nat × Tmp, x ∈ js → (Vs.getD x.1 Qv.any).p vs (b.eval (.tmp x.2)) w) → Ask' P ops vs Vs Qt o w js a → wpList P ops Qt [o] (onto b (js.map fun x => some x.2) a) w
  | [], _, _, h => h
  | (j, d) :: js, a, hx, h => Ask'.all (js := js) (fun x hm => hx x (List.mem_cons_of_mem _ hm)) (h _ (hx (j, d) (by simp)))
/-- Which late operations are over: the first k. -/
def Cls (L : Lt) (late : List Nat) (vs : List Value) (D : Array Bool) (w : World) : Prop := vs.length ≤ late.length ∧ L.C vs w ∧ ∀ q i, late[q]? = some i → (D.getD i false = true ↔ q < vs.length)
structure LInv (L : Lt) (late : List Nat) (ops : Array Oper) (n : Nat) (a0 : Act) (Vs : List (Qv L)) (vs : List Value) (D : Array Bool) (a : Act) (w : World) : Prop where
  head : HeadInv .any ops n D
  cls : Cls L late vs D w
  tsize : a.tmps.size = a0.tmps.size
  defers : a.defers = a0.defers
  rest : ∀ t, (∀ j, j < n → D.getD j false = true → dstAt ops j ≠ some t) → a.tmps[t]? = a0.tmps[t]?
  known : ∀ j V, D.getD j false = true → Vs[j]? = some V → V.p vs (valOf (dstAt ops j) a) w
theorem toldL_letsOut {T : Value → World → Prop} {dst : Option Tmp} {ds : List Deferred} : ¬ LetsOut (ToldL T dst ds) := by
  rintro ⟨a, w', e, _⟩
  cases e
def chainB (ops : Array Oper) (late : List Nat) : Bool := (List.range (late.length - 1)).all fun q => Region.waitsFor .any ops (late.getD (q + 1) 0) (late.getD q 0)
def lateB (ops : Array Oper) (n : Nat) (late : List Nat) : Bool := late.all (fun i => decide (i < n)) && decide late.Nodup && chainB ops late
theorem toldL_op {T : Value → World → Prop} {o : Oper} {a b : Act} {w : World} (hs : ∀ cs b, o.op ≠ .select cs b) (hd : ∀ d, o.dst = some d → d < a.tmps.size) (hsz : b.tmps.size = a.tmps.size) (hlook : ∀ t ∈ o.looksAt ops, b.tmps[t]? = a.tmps[t]?) {i : Nat} (hi : ops[i]? = some o)
    (hdf : b.defers = a0.defers) (h : wpList P ops (ToldL T o.dst a0.defers) [o] b w) : wpOp P ops Q i (fun a' w' => ∃ v, a' = a.put o.dst v ∧ T (match o.dst with | some _ => v | none => undef) w') a w := by
  have hex : execOp b.eval o = execOp a.eval o := execOp_congr o hs fun x hx => by
    cases x with
    | tmp t => exact eval_of _ _ _ (hlook t (List.mem_append_left _ (List.mem_filterMap.2 ⟨.tmp t, by simpa using hx, rfl⟩)))
    | _ => rfl
  have hwn : Region.wanted o (yielded ops b.tmps) = Region.wanted o (yielded ops a.tmps) := by
    unfold Region.wanted
    cases hg : o.guard with
    | none => rfl
    | some gw =>
      obtain ⟨g, want⟩ := gw
      have hy : yielded ops b.tmps g = yielded ops a.tmps g := by
        unfold yielded
        cases ht : (ops[g]?).bind (·.dst) with
        | none => rfl
        | some t => simp only [Option.bind_some, hlook t (by simp [Oper.looksAt, hg, ht])]
      simp only [hy]
  have fin : ∀ v w', ToldL T o.dst a0.defers .normal (b.put o.dst v) w' → ∃ v', a.put o.dst v = a.put o.dst v' ∧ T (match o.dst with | some _ => v' | none => undef) w' := by
    rintro v w' ⟨_, _, h1⟩
    refine ⟨v, rfl, ?_⟩
    cases hdd : o.dst with
    | none => rw [hdd] at h1; exact h1
    | some d =>
      rw [hdd] at h1
      have hlt := hd d hdd
      have : (b.put (some d) v).eval (.tmp d) = v := by simp [Act.put, Act.eval, Array.getD_eq_getD_getElem?, hsz, hlt]
      simp only [this] at h1
      exact h1
  unfold wpOp
  simp only [hi]
  simp only [wpList, hwn] at h
  split
  · rename_i hw
    rw [if_pos hw] at h
    rcases h with h | h
    · left
      unfold Oper.wp at h ⊢
      rw [hex] at h
      generalize (execOp a.eval o).run P w = r at *
      cases r with
      | ok x w' =>
        cases x with
        | value v => exact fin v w' h
        | skip => exact fin undef w' h
        | enter f args =>
          refine Calls.mono h fun e w'' he => ?_
          cases e with
          | returned u => exact fin u w'' he
          | panicked c => exact absurd he.1 (by simp)
          | outgrown => exact absurd he toldL_letsOut
        | row row args => exact Rows.mono h fun u w'' he => fin u w'' he
        | defer d =>
          obtain ⟨_, h1, _⟩ := h
          have h1 : (Act.put { b with defers := d :: b.defers } o.dst undef).defers = a0.defers := h1
          rw [put_defers, ← hdf] at h1
          exact absurd (congrArg List.length h1) (by simp)
        | _ => exact h.elim
      | halt x w' =>
        cases x with
        | panic v => exact absurd h.1 (by simp)
        | _ => exact h.elim
    · exact absurd h.2 toldL_letsOut
  · rename_i hw
    rw [if_neg hw] at h
    exact fin undef w h
theorem linv_step {L : Lt} {late : List Nat} {vs vs2 : List Value} {Vs : List (Qv L)} {D : Array Bool} {a a' : Act} {w w' : World} {i : Nat} {o : Oper} {V : Qv L} {v : Value} (inv : LInv L late ops n a0 Vs vs D a w) (hd : distB ops n a0.tmps.size = true) (hi : i ∈ Region.ready .any ops D) (hin : i < n) (ho : ops[i]? = some o) (hV : Vs[i]? = some V) (hnl : Vs.length ≤ n)
    (ha : a' = a.put o.dst v) (hv : V.p vs2 (match o.dst with | some _ => v | none => undef) w') (hg : ∀ (W : Qv L) (j : Nat), D.getD j false = true → Vs[j]? = some W → ∀ {u : Value}, W.p vs u w → W.p vs2 u w') (hcl : Cls L late vs2 (D.setIfInBounds i true) w') : LInv L late ops n a0 Vs vs2 (D.setIfInBounds i true) a' w' := by
  subst ha
  have hdi : dstAt ops i = o.dst := by simp [dstAt, ho]
  have hun : D.getD i true = false := (mem_ready.1 hi).1
  have hlt : i < D.size := by
    rcases Nat.lt_or_ge i D.size with h' | h'
    · exact h'
    · simp [Array.getElem?_eq_none h'] at hun
  refine ⟨inv.head.set hi hin, hcl, (put_size _ _ _).trans inv.tsize, (put_defers _ _ _).trans inv.defers, fun t ht => ?_, fun j W hj hW => ?_⟩
  · have h1 : o.dst ≠ some t := fun e => ht i hin (by simp [hlt]) (hdi.trans e)
    refine Eq.trans ?_ (inv.rest t fun j hj hD => ht j hj (getD_set_true hD))
    cases hdd : o.dst with
    | none => rfl
    | some d => exact put_at _ _ _ _ (fun e => h1 (by rw [hdd, e]))
  · by_cases e : i = j
    · subst e
      obtain rfl : V = W := Option.some.inj (hV.symm.trans hW)
      rw [hdi]
      cases hdd : o.dst with
      | none => rw [hdd] at hv; exact hv
      | some d =>
        rw [hdd] at hv
        have hds := list_all_range hd hin
        rw [hdi, hdd] at hds
        simp only [Bool.and_eq_true, decide_eq_true_eq] at hds
        have : (a.put (some d) v).eval (.tmp d) = v := by simp [Act.put, Act.eval, Array.getD_eq_getD_getElem?, inv.tsize, hds.1]
        show V.p vs2 ((a.put (some d) v).eval (.tmp d)) w'
        rw [this]
        exact hv
    · have hjn : j < n := by have := (List.getElem?_eq_some_iff.1 hW).1; omega
      rw [getD_set_ne false e] at hj
      have h1 := hg W j hj hW (inv.known j W hj hW)
      cases hdj : dstAt ops j with
      | none => rw [hdj] at h1; exact h1
      | some dj =>
        rw [hdj] at h1
        have h1 : W.p vs2 (a.eval (.tmp dj)) w' := h1
        show W.p vs2 ((a.put o.dst v).eval (.tmp dj)) w'
        cases hdd : o.dst with
        | none => exact h1
        | some d =>
          have hds := list_all_range hd hin
          rw [hdi, hdd] at hds
          simp only [Bool.and_eq_true, decide_eq_true_eq] at hds
          have h2 := list_all_range hds.2 hjn
          simp only [Bool.or_eq_true, beq_iff_eq, bne_iff_ne, ne_eq] at h2
          have h3 : d ≠ dj := fun e' => (h2.resolve_left (fun e2 => e e2.symm)) (by rw [hdj, e'])
          rw [eval_of _ a dj (put_at a d dj v h3)]
          exact h1
/-- The law. -/
theorem wpAny_late {l : List Oper} (n : Nat) (hB : monoB l.toArray n a0.tmps.size = true) (hBl : lateB l.toArray n late = true) (hC0 : L.C [] w0)
    (h : LateR L late P l.toArray n a0 (fun Vs => ∀ vs w, vs.length = late.length → L.C vs w → FinL' (fun a w => wpList P l.toArray Q (l.drop n) a w) vs w Vs (l.take n) a0) n [] l) : wpAny P .any l.toArray Q l.toArray.size (Array.replicate l.toArray.size false) a0 w0 := by
  simp only [monoB, Bool.and_eq_true, decide_eq_true_eq] at hB
  obtain ⟨⟨⟨⟨hsel, hn⟩, htail⟩, htopo⟩, hdist⟩ := hB
  simp only [tailB, Bool.and_eq_true] at htail
  obtain ⟨hblk, hseq⟩ := htail
  simp only [lateB, Bool.and_eq_true, decide_eq_true_eq] at hBl
  obtain ⟨⟨hlt0, hnd⟩, hch⟩ := hBl
  have hlate : ∀ i ∈ late, i < n := fun i hi => by simpa using List.all_eq_true.1 hlt0 i hi
  have hchain : ∀ q, q + 1 < late.length → ∀ i, late[q + 1]? = some i → ∀ i', late[q]? = some i' → Region.waitsFor .any l.toArray i i' = true := fun q hq i h1 i' h2 => by
    have := list_all_range hch (show q < late.length - 1 by omega)
    rw [List.getD_eq_getElem?_getD, List.getD_eq_getElem?_getD, h1, h2] at this
    exact this
  obtain ⟨_, Vs, hVl, hF, hO⟩ := LateR.out h
  rw [List.reverse_nil, List.nil_append] at hF
  simp only [List.reverse_nil, List.nil_append, List.length_nil, Nat.zero_add] at hO
  have hnl : n ≤ l.length := by simpa using hn
  have htl : (l.take n).length = n := by simp; omega
  have hVn : Vs.length = n := hVl
  have hfr : ∀ j W, Vs[j]? = some W → (late.contains j = false ∧ W.fr = 0) ∨ ∃ q, late[q]? = some j ∧ W.fr ≤ q + 1 := fun j W hW => by
    have hj : j < n := by have := (List.getElem?_eq_some_iff.1 hW).1; omega
    obtain ⟨V, js, hV, _, hask⟩ := hO j l[j] hj (List.getElem?_eq_getElem (by omega))
    obtain rfl : V = W := Option.some.inj (hV.symm.trans hW)
    rcases hask with ⟨h1, h2, _⟩ | ⟨q, h1, h2, _⟩
    · exact .inl ⟨h1, h2⟩
    · exact .inr ⟨q, h1, by rw [h2]; exact Nat.le_refl _⟩
  have hdl : (l.drop n).length = l.toArray.size - n := by simp
  have hnext : ∀ i o, i < n → l.toArray[i]? = some o → (l.take n)[i]? = some o := fun i o hi ho => by
    rw [List.getElem?_take, if_pos hi]
    simpa using ho
  have key : ∀ m vs D a w, LInv L late l.toArray n a0 Vs vs D a w → cnt D n = m → wpAny P .any l.toArray Q (m + (l.toArray.size - n)) D a w := by
    intro m
    induction m with
    | zero =>
      intro vs D a w inv hc
      have hall := cnt_zero hc
      have hD : D = Array.replicate n true ++ Array.replicate (l.toArray.size - n) false := by
        have hsz := inv.head.size
        refine Array.ext (by simp [hsz]; omega) fun i h1 h2 => ?_
        rw [Array.getElem_append]
        by_cases hi : i < n
        · have := hall i hi
          simp [h1] at this
          simp [hi, this]
        · have := inv.head.tail i (by omega) (by omega)
          simp [h1] at this
          simp [hi, this]
      have hk : ∀ (k : Nat) (V : Qv L) (o : Oper), Vs[k]? = some V → (l.take n)[k]? = some o → V.p vs (match o.dst with | some d => a.eval (.tmp d) | none => undef) w := by
        intro k V o hv ho
        have hkn : k < n := by have := (List.getElem?_eq_some_iff.1 hv).1; omega
        have h1 := inv.known k V (hall k hkn) hv
        have h2 : dstAt l.toArray k = o.dst := by
          have : l[k]? = some o := by rw [List.getElem?_take, if_pos hkn] at ho; exact ho
          simp [dstAt, this]
        rw [h2] at h1
        have h3 : (match o.dst with | some d => a.eval (.tmp d) | none => undef) = valOf o.dst a := by cases o.dst <;> rfl
        rw [h3]
        exact h1
      have hcl : vs.length = late.length ∧ L.C vs w := by
        obtain ⟨hk0, hk1, hk2⟩ := inv.cls
        rcases Nat.lt_or_ge vs.length late.length with h | h
        case inr => exact ⟨by omega, hk1⟩
        · have h1 := (hk2 vs.length late[vs.length] (List.getElem?_eq_getElem h)).1 (hall _ (hlate _ (List.getElem_mem h)))
          omega
      have hfin := FinL'.all (hVl.trans htl.symm) hk (hF vs w hcl.1 hcl.2)
      have hon : onto a ((l.take n).map (·.dst)) a0 = a := by
        refine act_ext (fun t => onto_at a t _ _ inv.tsize.symm ?_) ((onto_defers _ _ _).trans inv.defers.symm)
        by_cases ht : some t ∈ (l.take n).map (·.dst)
        · exact .inl ht
        · refine .inr (inv.rest t fun j hj _ e => ht ?_).symm
          have hjl : j < l.length := by omega
          have : l[j].dst = some t := by simpa [dstAt, hjl] using e
          exact List.mem_map.2 ⟨l[j], List.mem_iff_getElem?.2 ⟨j, by rw [List.getElem?_take, if_pos hj, List.getElem?_eq_getElem hjl]⟩, this⟩
      rw [hon] at hfin
      have := wpAny_of_seq (md := .any) (Q' := Q) (l.drop n) n D a w (fun j => by simp [List.getElem?_drop]) (by rw [hdl, hD]; exact hseq) hfin
      rw [hdl] at this
      rwa [Nat.zero_add]
    | succ m ih =>
      intro vs D a w inv hc
      have hready : ∀ i ∈ Region.ready .any l.toArray D, i < n := by
        intro i hi
        rcases Nat.lt_or_ge i n with h' | h'
        · exact h'
        · obtain ⟨hu, oi, hoi, hall⟩ := mem_ready.1 hi
          have hlt : i < l.toArray.size := (Array.getElem?_eq_some_iff.1 hoi).1
          exfalso
          obtain ⟨k, hk, hkd⟩ : ∃ k, k < n ∧ D.getD k false = false := by
            refine Classical.byContradiction fun hno => ?_
            have : ∀ k, k ≤ n → cnt D k = 0 := by
              intro k
              induction k with
              | zero => intro _; rfl
              | succ k ihk =>
                intro hk
                have h1 : D.getD k false = true := by
                  refine Classical.byContradiction fun hx => hno ⟨k, by omega, by simpa using hx⟩
                simp only [cnt, h1, ihk (by omega)]
                rfl
            rw [this n (Nat.le_refl _)] at hc
            omega
          have hb := list_all_range hblk hlt
          simp only [Bool.or_eq_true, decide_eq_true_eq] at hb
          have hb := list_all_range (hb.resolve_left (by omega)) hk
          simp only [Bool.not_eq_true'] at hb
          have hik : i ≠ k := by omega
          have : av l.toArray k n i = true := by
            have hav := fun f j hj => av_of (ops := l.toArray) inv.head.closed inv.head.size hkd f j hj
            cases hn0 : n with
            | zero => simp [av, hik]
            | succ f =>
              simp only [av, hoi, Option.map_some, Option.getD_some, Bool.and_eq_true, bne_iff_ne]
              refine ⟨hik, ?_⟩
              rw [Array.all_eq_true_iff_forall_mem]
              intro e he
              by_cases hbd : Region.binds .any e = true
              · simp [hbd, hav f e.on (hall e he hbd)]
              · simp [hbd]
          rw [hb] at this
          cases this
      have hne : Region.ready .any l.toArray D ≠ [] := by
        have hex : ∃ k, k < n ∧ D.getD k false = false ∧ ∀ j, j < k → D.getD j false = true := by
          have : ∀ k, k ≤ n → (∃ q, q < k ∧ D.getD q false = false ∧ ∀ j, j < q → D.getD j false = true) ∨ (cnt D k = 0) := by
            intro k
            induction k with
            | zero => intro _; exact .inr rfl
            | succ k ihk =>
              intro hk
              rcases ihk (by omega) with ⟨q, h1, h2⟩ | h0
              · exact .inl ⟨q, by omega, h2⟩
              · cases hq : D.getD k false with
                | true => right; simp only [cnt, hq, h0]; rfl
                | false => exact .inl ⟨k, by omega, hq, cnt_zero h0⟩
          rcases this n (Nat.le_refl _) with ⟨q, h1, h2⟩ | h0
          · exact ⟨q, h1, h2⟩
          · omega
        obtain ⟨k, hk, hkd, hbel⟩ := hex
        have hkl : k < l.toArray.size := by omega
        have ho : l.toArray[k]? = some l.toArray[k] := Array.getElem?_eq_getElem hkl
        have : k ∈ Region.ready .any l.toArray D := by
          refine mem_ready.2 ⟨getD_in (by rw [inv.head.size]; exact hkl) hkd, _, ho, fun e he hb => hbel _ ?_⟩
          have ht := list_all_range htopo hk
          simp only [ho, Option.map_some, Option.getD_some] at ht
          have := Array.all_eq_true_iff_forall_mem.1 ht e he
          simpa [hb] using this
        intro e
        rw [e] at this
        cases this
      rw [show m + 1 + (l.toArray.size - n) = (m + (l.toArray.size - n)) + 1 by omega]
      refine ⟨fun e => absurd e hne, fun i hi => ?_⟩
      have hin := hready i hi
      obtain ⟨hu, o, ho, hall⟩ := mem_ready.1 hi
      obtain ⟨V, js, hV, hchk, hask⟩ := hO i o hin (by simpa using ho)
      simp only [Bool.and_eq_true] at hchk
      obtain ⟨hpair, hlook⟩ := hchk
      have hdst : ∀ d, o.dst = some d → d < a.tmps.size := by
        intro d hd
        have := list_all_range hdist hin
        have h2 : dstAt l.toArray i = some d := by simp only [dstAt, ho]; exact hd
        rw [h2] at this
        simp only [Bool.and_eq_true, decide_eq_true_eq] at this
        rw [inv.tsize]
        exact this.1
      have hjs : ∀ x : Nat × Tmp, x ∈ js → dstAt l.toArray x.1 = some x.2 ∧ D.getD x.1 false = true ∧ x.1 < i := by
        intro x hx
        have := List.all_eq_true.1 hpair x hx
        simp only [Bool.and_eq_true, beq_iff_eq] at this
        obtain ⟨oj, hoj, e, he, hb, hon⟩ := Region.waitsFor_spec this.2
        obtain rfl : o = oj := Option.some.inj (ho.symm.trans hoj)
        have ht := list_all_range htopo hin
        simp only [ho, Option.map_some, Option.getD_some] at ht
        have ht := Array.all_eq_true_iff_forall_mem.1 ht e he
        simp only [hb, Bool.not_true, Bool.false_or, decide_eq_true_eq] at ht
        exact ⟨this.1, by rw [← hon]; exact hall e he hb, by rw [← hon]; exact ht⟩
      have hget : ∀ x : Nat × Tmp, x ∈ js → ((Vs.take i).getD x.1 Qv.any).p vs (a.eval (.tmp x.2)) w := fun x hx => by
        obtain ⟨h1, h2, h3⟩ := hjs x hx
        have hxl : x.1 < Vs.length := by omega
        have h4 : Vs[x.1]? = some Vs[x.1] := List.getElem?_eq_getElem hxl
        have h5 := inv.known x.1 _ h2 h4
        rw [h1] at h5
        have : (Vs.take i).getD x.1 Qv.any = Vs[x.1] := by
          rw [List.getD_eq_getElem?_getD, List.getElem?_take, if_pos h3, h4]
          rfl
        rw [this]
        exact h5
      obtain ⟨hk0, hk1, hk2⟩ := inv.cls
      have hlk : ∀ t ∈ o.looksAt l.toArray, (onto a (js.map fun x => some x.2) a0).tmps[t]? = a.tmps[t]? := fun t ht => by
        refine onto_at a t _ _ inv.tsize.symm ?_
        have h1 : (o.looksAt l.toArray).all (fun t => js.any (·.2 == t) || keptB l.toArray n i t) = true := by
          simpa only [lookB, ho, Option.map_some, Option.getD_some] using hlook
        have h2 := List.all_eq_true.1 h1 t ht
        simp only [Bool.or_eq_true] at h2
        rcases h2 with h2 | h2
        · left
          obtain ⟨x, hx, hxt⟩ := List.any_eq_true.1 h2
          exact List.mem_map.2 ⟨x, hx, by rw [beq_iff_eq.1 hxt]⟩
        · right
          refine (inv.rest t fun j hj hD e => ?_).symm
          have h3 := list_all_range h2 hj
          simp only [Bool.or_eq_true, bne_iff_ne, ne_eq, beq_iff_eq] at h3
          rcases h3 with (h3 | h3) | h3
          · exact h3 e
          · obtain ⟨oj, hoj, e', he', hb', hon⟩ := Region.waitsFor_spec h3
            have := inv.head.closed j oj hoj hD e' he' hb'
            rw [hon, getD_both hu] at this
            cases this
          · subst h3
            rw [getD_both hu] at hD
            cases hD
      obtain ⟨T, hA, hS⟩ : ∃ T : Value → World → Prop, Ask' P l.toArray vs (Vs.take i) (ToldL T o.dst a0.defers) o w js a0 ∧ (∀ v w', T v w' → ∃ vs2, V.p vs2 v w' ∧ (∀ (W : Qv L) (j : Nat), D.getD j false = true → Vs[j]? = some W → ∀ {u : Value}, W.p vs u w → W.p vs2 u w') ∧ Cls L late vs2 (D.setIfInBounds i true) w') := by
        rcases hask with ⟨hnl', _, hA⟩ | ⟨q, hq, hVq, hA⟩
        · have hne : ∀ q i', late[q]? = some i' → i ≠ i' := fun q i' hq e => by
            subst e
            have := List.contains_iff_mem.2 (List.mem_of_getElem? hq)
            rw [hnl'] at this
            cases this
          exact ⟨_, hA vs w hk1, fun v w' hg => ⟨vs, hg.1, fun W j _ _ _ hp => W.st hp hg.2, hk0, L.g hk1 hg.2, fun q i' hq => by rw [getD_set_ne false (hne q i' hq)]; exact hk2 q i' hq⟩⟩
        · have hDi : D.getD i false = false := getD_both hu
          have h1 : ¬ q < vs.length := fun h => by have := (hk2 q i hq).2 h; rw [hDi] at this; cases this
          have h2 : q ≤ vs.length := by
            cases q with
            | zero => omega
            | succ q =>
              have hql : q < late.length := by have := (List.getElem?_eq_some_iff.1 hq).1; omega
              have hw := hchain q (by have := (List.getElem?_eq_some_iff.1 hq).1; omega) i hq late[q] (List.getElem?_eq_getElem hql)
              obtain ⟨oj, hoj, e, he, hb, hon⟩ := Region.waitsFor_spec hw
              obtain rfl : o = oj := Option.some.inj (ho.symm.trans hoj)
              have h3 := hall e he hb
              rw [hon] at h3
              have := (hk2 q _ (List.getElem?_eq_getElem hql)).1 h3
              omega
          obtain rfl : q = vs.length := by omega
          refine ⟨_, hA vs w rfl hk1, fun v w' hg => ⟨vs ++ [v], (by rw [hVq]; show (vs ++ [v])[vs.length]? = some v; simp), fun W j hj hW _ hp => W.sr ?_ hk1 hg.1 hp, by rw [List.length_append]; exact (List.getElem?_eq_some_iff.1 hq).1, hg.2, fun q' i' hq' => ?_⟩⟩
          · rcases hfr j W hW with ⟨_, h4⟩ | ⟨q', hq', h4⟩
            · rw [h4]; exact Nat.zero_le _
            · have := (hk2 q' j hq').1 hj
              omega
          · by_cases e : i = i'
            · subst e
              have hqq : q' = vs.length := by
                have h5 := (List.getElem?_eq_some_iff.1 hq').1
                skip
                exact (List.getElem?_inj h5 hnd).1 (hq'.trans hq.symm)
              have hlt : i < D.size := by
                rw [inv.head.size]
                exact (Array.getElem?_eq_some_iff.1 ho).1
              simp [hlt, hqq]
            · rw [getD_set_ne false e, hk2 q' i' hq']
              have : q' ≠ vs.length := fun e' => e (by rw [e', hq] at hq'; exact Option.some.inj hq')
              simp only [List.length_append, List.length_singleton]
              omega
      have hW := Ask'.all (b := a) hget hA
      have hop := toldL_op (Q := Q) (ops := l.toArray) (a0 := a0) (a := a) (Region.noSelect_spec hsel i o · · ho) hdst ((onto_size _ _ _).trans inv.tsize.symm) hlk ho (onto_defers _ _ _) hW
      refine wpOp_mono (fun a' w' hk => ?_) hop
      obtain ⟨v, ha, hT⟩ := hk
      obtain ⟨vs2, hv, hs, hcl⟩ := hS _ w' hT
      exact ih vs2 _ a' w' (linv_step inv hdist hi hin ho hV (by omega) ha hv hs hcl) (by have := (cnt_set (D := D) (i := i) n).2 hin hu; omega)
  have h0 := key n [] (Array.replicate l.toArray.size false) a0 w0 ⟨⟨by simp, (fun j oj _ hD => by rw [getD_replicate_false] at hD; cases hD), fun t _ ht => by simp only [List.size_toArray] at ht ⊢; simp [ht]⟩, ⟨Nat.zero_le _, hC0, fun q i hq => by rw [getD_replicate_false]; simp⟩, rfl, rfl, fun _ _ => rfl, (fun j V hD => by rw [getD_replicate_false] at hD; cases hD)⟩ (cnt_false _ n)
  rwa [show n + (l.toArray.size - n) = l.toArray.size by omega] at h0
/-- One operation that is carried out .. -/
theorem askl_do {T : Value → World → Prop} {ds : List Deferred} {o : Oper} {a : Act} {w : World} (hw : Region.wanted o (yielded ops a.tmps) = true)
    (h : ∀ K' : Act → World → Prop, (∀ a' w', a'.defers = ds → T (match o.dst with | some d => a'.eval (.tmp d) | none => undef) w' → K' a' w') → o.wp P a w K' (ToldL T o.dst ds)) : wpList P ops (ToldL T o.dst ds) [o] a w := by
  unfold wpList
  rw [if_pos hw]
  exact .inl (h _ fun a' w' h1 h2 => ⟨rfl, h1, h2⟩)
/-- What is behind them. -/
def FinL (P : Program) (ops : Array Oper) (Q : Exit → Act → World → Prop) (vs : List Value) (w : World) : List (Qv L) → List Oper → Act → Prop
  | V :: Vs, o :: os, a => ∀ x, V.p vs x w → FinL P ops Q vs w Vs os (a.put o.dst x)
  | _, os, a => wpList P ops Q os a w
theorem FinL.cut {vs : List Value} {w : World} : ∀ {Vs : List (Qv L)} {os : List Oper} {a : Act}, Vs.length ≤ os.length → FinL P ops Q vs w Vs os a → FinL' (fun a w => wpList P ops Q (os.drop Vs.length) a w) vs w Vs (os.take Vs.length) a
  | [], os, a, _, h => by
    have h : wpList P ops Q os a w := by cases os <;> exact h
    exact h
  | V :: Vs, [], a, hl, _ => by simp at hl
  | V :: Vs, o :: os, a, hl, h => fun x hx => FinL.cut (Vs := Vs) (os := os) (by simpa using hl) (h x hx)
theorem LateR.weak {F G : List (Qv L) → Prop} : ∀ {k : Nat} {Rs : List (Qv L)} {os : List Oper}, LateR L late P ops n a0 F k Rs os → (∀ Ws, Ws.length = Rs.length + k → F Ws → G Ws) → LateR L late P ops n a0 G k Rs os
  | 0, Rs, _, h, hg => hg _ (by simp) h
  | _ + 1, _, [], h, _ => h.elim
  | k + 1, Rs, o :: os, ⟨V, js, hb, hA, hM⟩, hg => ⟨V, js, hb, hA, LateR.weak hM fun Ws hW => hg Ws (by simp at hW ⊢; omega)⟩
theorem wpAny_lateR {l : List Oper} (n : Nat) (hB : monoB l.toArray n a0.tmps.size = true) (hBl : lateB l.toArray n late = true) (hC0 : L.C [] w0)
    (h : LateR L late P l.toArray n a0 (fun Vs => ∀ vs w, vs.length = late.length → L.C vs w → FinL P l.toArray Q vs w Vs l a0) n [] l) : wpAny P .any l.toArray Q l.toArray.size (Array.replicate l.toArray.size false) a0 w0 := by
  refine wpAny_late n hB hBl hC0 (LateR.weak h fun Ws hW hF vs w hvl hw => ?_)
  have hn := (LateR.out h).1
  have hl : Ws.length = n := by simpa using hW
  have := FinL.cut (by rw [hl]; exact hn) (hF vs w hvl hw)
  rwa [hl] at this
theorem wp_region_late {l : List Oper} {id : Nat} (L : Lt) (late : List Nat) (n : Nat) (hm : P.follows .mixedOrders = true) (hB : monoB l.toArray n a0.tmps.size = true) (hBl : lateB l.toArray n late = true) (hC0 : L.C [] w0.drew)
    (h : LateR L late P l.toArray n a0 (fun Vs => ∀ vs w, vs.length = late.length → L.C vs w → FinL P l.toArray Q vs w Vs l a0) n [] l) : (Code.region id l.toArray true).wp P Q a0 w0 :=
  wp_region_any hm (wpAny_lateR n hB hBl hC0 h)
end
end Go.Proofs.YthicondcjeipfaaGreatDoor

namespace Go.Proofs.YthicondcjeipfaaGreatDoor
open Go Go.RowKit Go.Shelf

attribute [local go_sem] Oper.semAt_some
/-- Two lists built side by side. -/
structure Side {α β : Type} (E : Enc α) (F : Enc β) (base : Nat) (e f : TypeId) (Z : Nat → Prop) (w : World) (v u : Value) (xs : List α) (ys : List β) : Prop where
  fst : Acc E base e (fun g => Z g ∧ some g ≠ u.ownBlock) w v xs
  snd : Acc F base f (fun g => Z g ∧ some g ≠ v.ownBlock) w u ys
section
variable {α β : Type} {E : Enc α} {F : Enc β} {base : Nat} {e f : TypeId} {Z : Nat → Prop} {w w' : World} {v u v' u' : Value} {xs xs' : List α} {ys ys' : List β}
theorem Side.kept (h : Side E F base e f Z w v u xs ys) (hg : w.grownBy w' none) : Side E F base e f Z w' v u xs ys := ⟨h.fst.kept hg, h.snd.kept hg⟩
theorem Side.swap (h : Side E F base e f Z w v u xs ys) : Side F E base f e Z w u v ys xs := ⟨h.snd, h.fst⟩
theorem Side.one (h : Side E F base e f Z w v u xs ys) (ha : Acc E base e (fun g => Z g ∧ some g ≠ u.ownBlock) w' v' xs') (hg : w.grownBy w' v.ownBlock) (hm : Moved w v v') : Side E F base e f Z w' v' u xs' ys := by
  refine ⟨ha, ?_⟩
  have h1 : Acc F base f (fun g => (Z g ∧ some g ≠ v'.ownBlock) ∧ some g ≠ v.ownBlock) w u ys := h.snd.more fun g hg hx => ⟨⟨hx.1, fun e => hm.ne hg (fun e' => hx.2 e'.symm) e.symm⟩, hx.2⟩
  exact (h1.keep hg fun g hx => hx.2).more fun g _ hx => hx.1
theorem Side.two (h : Side E F base e f Z w v u xs ys) (ha : Acc F base f (fun g => Z g ∧ some g ≠ v.ownBlock) w' u' ys') (hg : w.grownBy w' u.ownBlock) (hm : Moved w u u') : Side E F base e f Z w' v u' xs ys' := (h.swap.one ha hg hm).swap
theorem Side.new1 (h : Side E F base e f Z w v u xs ys) (hZ : ∀ g, w.heap.size ≤ g → Z g) : ∀ g, w.heap.size ≤ g → Z g ∧ some g ≠ u.ownBlock := fun g hg => ⟨hZ g hg, fun e => by have := (h.snd.lt g e.symm).2; omega⟩
theorem Side.new2 (h : Side E F base e f Z w v u xs ys) (hZ : ∀ g, w.heap.size ≤ g → Z g) : ∀ g, w.heap.size ≤ g → Z g ∧ some g ≠ v.ownBlock := fun g hg => ⟨hZ g hg, fun e => by have := (h.fst.lt g e.symm).2; omega⟩
end
theorem Side.keep {α β : Type} {E : Enc α} {F : Enc β} {base : Nat} {e f : TypeId} {Z : Nat → Prop} {w w' : World} {v u : Value} {xs : List α} {ys : List β} {row : Option Nat} (h : Side E F base e f Z w v u xs ys) (hg : w.grownBy w' row) (hZ : ∀ g, Z g → some g ≠ row) : Side E F base e f Z w' v u xs ys := ⟨h.fst.keep hg fun g hx => hZ g hx.1, h.snd.keep hg fun g hx => hZ g hx.1⟩
theorem Side.keepc {α β : Type} {E : Enc α} {F : Enc β} {base : Nat} {e f : TypeId} {Z : Nat → Prop} {w w' : World} {v u : Value} {xs : List α} {ys : List β} {row : Option Nat} (h : Side E F base e f Z w v u xs ys) (hg : w.grownBy w' row) (hr : ∀ r, row = some r → ∃ o : Obj, w.heap[r]? = some o ∧ o.isCells = false) : Side E F base e f Z w' v u xs ys := ⟨h.fst.keepc hg hr, h.snd.keepc hg hr⟩
theorem cellK {w w' : World} {g o : Nat} {u : Value} {row : Option Nat} (h : w.cell? ⟨g, o, none⟩ = some u) (hg : w.grownBy w' row) (hne : some g ≠ row) : w'.cell? ⟨g, o, none⟩ = some u := (World.cell?_of_block (w := w) (hg.block g (block_lt_of_cell h) hne)).trans h
/-- A slice of one thing in a block made since n. -/
def BlkQ (n : Nat) (t : TypeId) (u v : Value) (w : World) : Prop := ∃ b, v = .slice (some ⟨b, 0, none⟩) 1 1 ∧ n ≤ b ∧ Bk w b t #[u]
section
variable {base : Nat} {W wd w' w3 : World} {vW vB u v3 : Value} {g8 d : Nat} {bv : Int} {xsW : List (List Int)} {xsB : List Int} {yW : List Int}
end
theorem grownSet (w : World) (g o : Nat) (v : Value) : w.grownBy (w.setCell ⟨g, o, none⟩ v) (some g) := ⟨rfl, rfl, rfl, by simp [World.setCell], fun k _ hne => Below.heap_setCell w ⟨g, o, none⟩ v k (fun e => hne (by rw [e]))⟩
theorem grownSetUp {w w1 : World} (h : w.grownBy w1 none) {g : Nat} (o : Nat) (v : Value) (hg : w.heap.size ≤ g) : w.grownBy (w1.setCell ⟨g, o, none⟩ v) none := grown_up h (grownSet w1 g o v) (fun k e => by injection e with e; omega)
theorem Sl.shape {α : Type} {E : Enc α} {X : Nat → Prop} {w : World} {v : Value} {xs : List α} (h : Sl E X w v xs) : ∃ A n c, v = .slice A n c := by
  obtain ⟨A, c, e, _, _⟩ := h.form
  exact ⟨_, _, _, e⟩
end Go.Proofs.YthicondcjeipfaaGreatDoor

namespace Go.Proofs.YthicondcjeipfaaGreatDoor
open Go.RowKit

def Quietly (w : World) (v : Value) (e : Ending) (w' : World) : Prop := e = .returned v ∧ ∃ n, w' = w.drewN n

set_option maxHeartbeats 400000 in
theorem nums_eq (v1 v2 : Value) (xs : List Int) (X Y : Nat → Prop) (w : World) (h1 : Sl encU X w v1 xs) (h2 : Sl encU Y w v2 xs) :
    Calls Tryz.prog 21 #[v1, v2] w (Quietly w (.bool true)) := by
  have H1 := Lib.hid h1
  have H2 := Lib.hid h2
  obtain ⟨A1, c1, rfl, hc1, hc2⟩ := h1.form
  obtain ⟨A2, c2, rfl, _, _⟩ := h2.form
  clear h1 h2
  have HST : Hid (∃ n, w = w.drewN n) := Lib.hid ⟨0, rfl⟩
  go_enter Tryz.func21, Tryz.ntmps21
  go_wp2_with fail
  go_loopg [5] xs.length (fun g s5 wx => ∃ j : Nat, j + g = xs.length ∧ s5 = .int .i64 j ∧ Hid (∃ n, wx = w.drewN n))
  case atStart => exact ⟨0, by omega, rfl, HST⟩
  case round =>
    obtain ⟨j, hj, rfl, HX⟩ := hrel
    obtain ⟨n0, rfl⟩ := HX.out
    cases gk with
    | zero =>
      obtain rfl : j = xs.length := by omega
      clear HX HST
      go_wp2
      go_ret
      exact ⟨rfl, _, rfl⟩
    | succ m =>
      have hjn : (j : Int) < (xs.length : Int) := by omega
      have hj0 : (0 : Int) ≤ (j : Int) := by omega
      have hjN : j < xs.length := by omega
      obtain ⟨g1, o1, c1', e1, _, _, a1, u1⟩ := H1.out.atU hjN
      injection e1 with e11 e12 e13
      subst e11 e13
      obtain ⟨g2, o2, c2', e2, _, _, a2, _⟩ := H2.out.atU hjN
      injection e2 with e21 e22 e23
      subst e21 e23
      clear HX HST e12 e22
      generalize xs[j] = y at *
      go_wp2_with fail
      go_quiet (fail)
      go_wp2_with fail
      go_roundg m
      case measure => omega
      case rel => exact ⟨j + 1, by omega, by go_num, Lib.hid ⟨_, rfl⟩⟩

set_option maxHeartbeats 400000 in
theorem lists_eq (v1 v2 : Value) (xs : List (List Int)) (X Y : Nat → Prop) (w : World) (h1 : Sl (encS encU) X w v1 xs) (h2 : Sl (encS encU) Y w v2 xs) :
    Calls Tryz.prog 19 #[v1, v2] w (Quietly w (.bool true)) := by
  have H1 := Lib.hid h1
  have H2 := Lib.hid h2
  obtain ⟨A1, c1, rfl, hc1, hc2⟩ := h1.form
  obtain ⟨A2, c2, rfl, _, _⟩ := h2.form
  clear h1 h2
  have HST : Hid (∃ n, w = w.drewN n) := Lib.hid ⟨0, rfl⟩
  go_enter Tryz.func19, Tryz.ntmps19
  go_wp2_with fail
  go_loopg [5] xs.length (fun g s5 wx => ∃ j : Nat, j + g = xs.length ∧ s5 = .int .i64 j ∧ Hid (∃ n, wx = w.drewN n))
  case atStart => exact ⟨0, by omega, rfl, HST⟩
  case round =>
    obtain ⟨j, hj, rfl, HX⟩ := hrel
    obtain ⟨n0, rfl⟩ := HX.out
    cases gk with
    | zero =>
      obtain rfl : j = xs.length := by omega
      clear HX HST
      go_wp2
      go_ret
      exact ⟨rfl, _, rfl⟩
    | succ m =>
      have hjn : (j : Int) < (xs.length : Int) := by omega
      have hj0 : (0 : Int) ≤ (j : Int) := by omega
      have hjN : j < xs.length := by omega
      obtain ⟨g1, o1, c1', t1, e1, _, _, a1, k1⟩ := H1.out.atS hjN
      injection e1 with e11 e12 e13
      subst e11 e13
      obtain ⟨g2, o2, c2', t2, e2, _, _, a2, k2⟩ := H2.out.atS hjN
      injection e2 with e21 e22 e23
      subst e21 e23
      have HN := Lib.hid (fun k => nums_eq t1 t2 xs[j] X Y (w.drewN k) (k1.kept (grownBy_drewN (World.grownBy.refl w none) k)) (k2.kept (grownBy_drewN (World.grownBy.refl w none) k)))
      obtain ⟨B1, d1, rfl, _, _⟩ := k1.form
      obtain ⟨B2, d2, rfl, _, _⟩ := k2.form
      clear HX HST e12 e22 k1 k2
      generalize xs[j].length = n1 at *
      go_wp2_with fail
      go_quiet ((go_at_call 21; exact quiet_add (HN.out _)))
      go_wp2_with fail
      go_roundg m
      case measure => omega
      case rel => exact ⟨j + 1, by omega, by go_num, Lib.hid ⟨_, rfl⟩⟩

set_option maxHeartbeats 400000 in
theorem same_eq (v1 v2 : Value) (xs : List (Int × Int)) (X Y : Nat → Prop) (w : World) (h1 : Sl encP X w v1 xs) (h2 : Sl encP Y w v2 xs) :
    Calls Tryz.prog 12 #[v1, v2] w (Quietly w (.bool true)) := by
  have H1 := Lib.hid h1
  have H2 := Lib.hid h2
  obtain ⟨A1, c1, rfl, hc1, hc2⟩ := h1.form
  obtain ⟨A2, c2, rfl, _, _⟩ := h2.form
  clear h1 h2
  have HST : Hid (∃ n, w = w.drewN n) := Lib.hid ⟨0, rfl⟩
  go_enter Tryz.func12, Tryz.ntmps12
  go_wp2_with fail
  go_loopg [5] xs.length (fun g s5 wx => ∃ j : Nat, j + g = xs.length ∧ s5 = .int .i64 j ∧ Hid (∃ n, wx = w.drewN n))
  case atStart => exact ⟨0, by omega, rfl, HST⟩
  case round =>
    obtain ⟨j, hj, rfl, HX⟩ := hrel
    obtain ⟨n0, rfl⟩ := HX.out
    cases gk with
    | zero =>
      obtain rfl : j = xs.length := by omega
      clear HX HST
      go_wp2
      go_ret
      exact ⟨rfl, _, rfl⟩
    | succ m =>
      have hjn : (j : Int) < (xs.length : Int) := by omega
      have hj0 : (0 : Int) ≤ (j : Int) := by omega
      have hjN : j < xs.length := by omega
      obtain ⟨g1, o1, c1', e1, _, _, a1, b1, u1, u2⟩ := H1.out.atP hjN
      injection e1 with e11 e12 e13
      subst e11 e13
      obtain ⟨g2, o2, c2', e2, _, _, a2, b2, _, _⟩ := H2.out.atP hjN
      injection e2 with e21 e22 e23
      subst e21 e23
      clear HX HST e12 e22
      generalize xs[j].1 = y1 at *
      generalize xs[j].2 = y2 at *
      go_wp2_with fail
      go_quiet (fail)
      go_wp2_with fail
      go_roundg m
      case measure => omega
      case rel => exact ⟨j + 1, by omega, by go_num, Lib.hid ⟨_, rfl⟩⟩

set_option maxHeartbeats 400000 in
theorem shares_eq (v1 v2 : Value) (xs : List (List (Int × Int))) (X Y : Nat → Prop) (w : World) (h1 : Sl (encS encP) X w v1 xs) (h2 : Sl (encS encP) Y w v2 xs) :
    Calls Tryz.prog 9 #[v1, v2] w (Quietly w (.bool true)) := by
  have H1 := Lib.hid h1
  have H2 := Lib.hid h2
  obtain ⟨A1, c1, rfl, hc1, hc2⟩ := h1.form
  obtain ⟨A2, c2, rfl, _, _⟩ := h2.form
  clear h1 h2
  have HST : Hid (∃ n, w = w.drewN n) := Lib.hid ⟨0, rfl⟩
  go_enter Tryz.func9, Tryz.ntmps9
  go_wp2_with fail
  go_loopg [5] xs.length (fun g s5 wx => ∃ j : Nat, j + g = xs.length ∧ s5 = .int .i64 j ∧ Hid (∃ n, wx = w.drewN n))
  case atStart => exact ⟨0, by omega, rfl, HST⟩
  case round =>
    obtain ⟨j, hj, rfl, HX⟩ := hrel
    obtain ⟨n0, rfl⟩ := HX.out
    cases gk with
    | zero =>
      obtain rfl : j = xs.length := by omega
      clear HX HST
      go_wp2
      go_ret
      exact ⟨rfl, _, rfl⟩
    | succ m =>
      have hjn : (j : Int) < (xs.length : Int) := by omega
      have hj0 : (0 : Int) ≤ (j : Int) := by omega
      have hjN : j < xs.length := by omega
      obtain ⟨g1, o1, c1', t1, e1, _, _, a1, k1⟩ := H1.out.atS hjN
      injection e1 with e11 e12 e13
      subst e11 e13
      obtain ⟨g2, o2, c2', t2, e2, _, _, a2, k2⟩ := H2.out.atS hjN
      injection e2 with e21 e22 e23
      subst e21 e23
      have HN := Lib.hid (fun k => same_eq t1 t2 xs[j] X Y (w.drewN k) (k1.kept (grownBy_drewN (World.grownBy.refl w none) k)) (k2.kept (grownBy_drewN (World.grownBy.refl w none) k)))
      obtain ⟨B1, d1, rfl, _, _⟩ := k1.form
      obtain ⟨B2, d2, rfl, _, _⟩ := k2.form
      clear HX HST e12 e22 k1 k2
      generalize xs[j].length = n1 at *
      go_wp2_with fail
      go_quiet ((go_at_call 12; exact quiet_add (HN.out _)))
      go_wp2_with fail
      go_roundg m
      case measure => omega
      case rel => exact ⟨j + 1, by omega, by go_num, Lib.hid ⟨_, rfl⟩⟩

end Go.Proofs.YthicondcjeipfaaGreatDoor

namespace Go.Proofs.YthicondcjeipfaaGreatDoor
open Go Go.RowKit

end Go.Proofs.YthicondcjeipfaaGreatDoor

namespace Go.Proofs.YthicondcjeipfaaGreatDoor
open Go Go.RowKit

abbrev ps : Par := ⟨23, 11, 4, 9, 4, 4, 1, 1, 1, 1, 1, 1⟩
theorem ps_ok : ps.ok := ⟨⟨by decide, by decide⟩, ⟨by decide, by decide⟩, ⟨by decide, by decide⟩, ⟨by decide, by decide⟩, ⟨by decide, by decide⟩, ⟨by decide, by decide⟩, ⟨by decide, by decide⟩, ⟨by decide, by decide⟩, ⟨by decide, by decide⟩, ⟨by decide, by decide⟩, ⟨by decide, by decide⟩, ⟨by decide, by decide⟩⟩
end Go.Proofs.YthicondcjeipfaaGreatDoor

namespace Go.Proofs.YthicondcjeipfaaGreatDoor
open Go.RowKit

def triedL : List Int := [2, 3, 5, 7, 11, 13, 17, 19, 23, 29, 31, 37]
/-- The two tables, where their variables lie. -/
def TabsAt (w : World) : Prop := (∀ j, j < Lib.deBruijn64tab.length → w.cell? ⟨1, j, none⟩ = some (.int .u8 (Lib.deBruijn64tab.getD j 0))) ∧ (∀ j, j < 12 → w.cell? ⟨0, j, none⟩ = some (.int .u64 (triedL.getD j 0)))
theorem TabsAt.drewN {w : World} (h : TabsAt w) (n : Nat) : TabsAt (w.drewN n) := h

set_option maxHeartbeats 400000 in
theorem tz64_core (x k idx : Nat) (w : World) (hx0 : ((x : Int) == 0) = false)
    (key : IntKind.u64.wrap (bits BinOp.and IntKind.u64 (x : Int) (IntKind.u64.wrap (-(x : Int))) * 285870213051353865) / 288230376151711744 = (idx : Int))
    (hi : idx < 64) (hk : k < 64) (hcell : w.cell? ⟨1, idx, none⟩ = some (.int .u8 k)) :
    Calls Tryz.prog 86 #[.int .u64 x] w fun e w' => e = .returned (.int .i64 k) ∧ w' = w := by
  go_enter Tryz.func86, Tryz.ntmps86
  go_wp2_with (simp only [key])
  go_ret
  exact ⟨rfl, rfl⟩

theorem tz64_key (x a : Nat) (hx : x < 18446744073709551616) (hx0 : x ≠ 0) (hlow : x &&& (18446744073709551616 - x) = a) :
    IntKind.u64.wrap (bits BinOp.and IntKind.u64 (x : Int) (IntKind.u64.wrap (-(x : Int))) * 285870213051353865) / 288230376151711744 = ((a * 285870213051353865 % 18446744073709551616 / 288230376151711744 : Nat) : Int) := by
  have e1 : IntKind.u64.wrap (-(x : Int)) = ((18446744073709551616 - x : Nat) : Int) := by rw [IntKind.wrap_u64]; omega
  rw [e1, bits_and_u64_nat x _ hx (by omega), hlow, IntKind.wrap_u64]
  omega

theorem tz64_any (x : Int) (w : World) (h0 : 0 < x) (h1 : x < 18446744073709551616) (hT : TabsAt w) :
    Calls Tryz.prog 86 #[.int .u64 x] w fun e w' => e = .returned (.int .i64 (Lib.ctz 64 x.toNat)) ∧ w' = w := by
  obtain ⟨n, rfl⟩ := Int.eq_ofNat_of_zero_le (show 0 ≤ x by omega)
  rw [Int.toNat_natCast]
  have hx0 : n ≠ 0 := by omega
  have hx : n < 18446744073709551616 := by omega
  obtain ⟨hlow, hk⟩ := Lib.lowest_bit 64 n hx0 hx
  obtain ⟨hi, htab⟩ := Lib.deBruijn64_at _ hk
  have hcell := hT.1 _ hi
  rw [htab] at hcell
  exact tz64_core n _ _ w (by simp; omega) (tz64_key n _ hx hx0 hlow) hi hk hcell

/-- Squares until n - 1 is met. -/
def witB (n : Int) : Nat → Int → Bool
  | 0, _ => false
  | k + 1, x => x == n - 1 || witB n k (mulI x x n)
def passB (n a : Int) (t : Nat) : Bool := powI a ((n - 1) / 2 ^ t) n == 1 || witB n t (powI a ((n - 1) / 2 ^ t) n)
def goB (n : Int) (t : Nat) : List Int → Bool
  | [] => true
  | a :: l => if n % a = 0 then decide (n = a) else if passB n a t then goB n t l else false
def primeB (n : Int) : Bool := if n < 2 ∨ 2305843009213693952 < n then false else goB n (Lib.ctz 64 (n - 1).toNat) triedL

set_option maxHeartbeats 400000 in
theorem prime_out (n : Int) (w : World) (h : n < 2 ∨ 2305843009213693952 < n) :
    Calls Tryz.prog 64 #[.int .u64 n] w fun e w' => e = .returned (.bool false) ∧ ∃ k, w' = w.drewN k := by
  by_cases h2 : n < 2
  · clear h
    have h2' : decide (n < 2) = true := by simpa using h2
    go_enter Tryz.func64, Tryz.ntmps64
    go_wp2
    go_step3
    go_wp2
    (try rw [Exit.noGoto_ret])
    go_ret
    exact ⟨rfl, 0, rfl⟩
  · have h2' : decide (n < 2) = false := by simpa using h2
    have h3 : 2305843009213693952 < n := h.resolve_left h2
    have h3' : decide (2305843009213693952 < n) = true := by simpa using h3
    clear h
    go_enter Tryz.func64, Tryz.ntmps64
    go_wp2
    go_step3
    go_wp2
    (try rw [Exit.noGoto_ret])
    go_ret
    exact ⟨rfl, 0, rfl⟩

theorem powI_U64 (a e m : Int) : U64 (powI a e m) := by
  cases hm : mayB m with
  | false => simp [powI, hm, U64]
  | true =>
    simp only [powI, hm, if_true]
    simp [mayB] at hm
    have := emod_bd (a ^ e.toNat) m hm.1
    unfold U64
    omega
/-- The k-th of the numbers: what it is, and how the walk reads it. -/
theorem tried_at : ∀ k : Nat, k < 12 → ∃ p : Int, triedL.drop k = p :: triedL.drop (k + 1) ∧ 2 ≤ p ∧ p ≤ 37 ∧
    ∀ w, (Instr.index 120 (.agg #[.int .u64 2, .int .u64 3, .int .u64 5, .int .u64 7, .int .u64 11, .int .u64 13, .int .u64 17, .int .u64 19, .int .u64 23, .int .u64 29, .int .u64 31, .int .u64 37]) (.int .i64 k)).run Tryz.prog w = .ok (.int .u64 p) w := by
  intro k hk
  match k, hk with
  | 0, _ => exact ⟨2, rfl, by decide, by decide, fun _ => by kernel_rfl⟩
  | 1, _ => exact ⟨3, rfl, by decide, by decide, fun _ => by kernel_rfl⟩
  | 2, _ => exact ⟨5, rfl, by decide, by decide, fun _ => by kernel_rfl⟩
  | 3, _ => exact ⟨7, rfl, by decide, by decide, fun _ => by kernel_rfl⟩
  | 4, _ => exact ⟨11, rfl, by decide, by decide, fun _ => by kernel_rfl⟩
  | 5, _ => exact ⟨13, rfl, by decide, by decide, fun _ => by kernel_rfl⟩
  | 6, _ => exact ⟨17, rfl, by decide, by decide, fun _ => by kernel_rfl⟩
  | 7, _ => exact ⟨19, rfl, by decide, by decide, fun _ => by kernel_rfl⟩
  | 8, _ => exact ⟨23, rfl, by decide, by decide, fun _ => by kernel_rfl⟩
  | 9, _ => exact ⟨29, rfl, by decide, by decide, fun _ => by kernel_rfl⟩
  | 10, _ => exact ⟨31, rfl, by decide, by decide, fun _ => by kernel_rfl⟩
  | 11, _ => exact ⟨37, rfl, by decide, by decide, fun _ => by kernel_rfl⟩

set_option maxHeartbeats 400000 in
theorem prime_in (n : Int) (w : World) (h2 : 2 ≤ n) (h3 : n ≤ 2305843009213693952) (hT : TabsAt w) :
    Calls Tryz.prog 64 #[.int .u64 n] w fun e w' => e = .returned (.bool (goB n (Lib.ctz 64 (n - 1).toNat) triedL)) ∧ ∃ k, w' = w.drewN k := by
  have h2' : decide (n < 2) = false := by simp; omega
  have h3' : decide (2305843009213693952 < n) = false := by simp; omega
  have HT := Lib.hid hT
  obtain ⟨t, ht⟩ : ∃ t, t = Lib.ctz 64 (n - 1).toNat := ⟨_, rfl⟩
  have ht64 : t < 64 := by rw [ht]; exact (Lib.lowest_bit 64 (n - 1).toNat (by omega) (by omega)).2
  have HZ := Lib.hid (tz64_any (n - 1) w (by omega) (by omega) hT)
  rw [← ht] at HZ ⊢
  clear ht hT
  go_enter Tryz.func64, Tryz.ntmps64
  go_wp2
  go_step3
  go_wp2_with fail
  refine HZ.out.mono ?_
  rintro e w' ⟨rfl, hw'⟩
  rw [hw']
  clear hw'
  go_wp2_with fail
  go_step3
  have k0 : w.cell? ⟨0, 0, none⟩ = some (.int .u64 2) := HT.out.2 0 (by decide)
  have k1 : w.cell? ⟨0, 1, none⟩ = some (.int .u64 3) := HT.out.2 1 (by decide)
  have k2 : w.cell? ⟨0, 2, none⟩ = some (.int .u64 5) := HT.out.2 2 (by decide)
  have k3 : w.cell? ⟨0, 3, none⟩ = some (.int .u64 7) := HT.out.2 3 (by decide)
  have k4 : w.cell? ⟨0, 4, none⟩ = some (.int .u64 11) := HT.out.2 4 (by decide)
  have k5 : w.cell? ⟨0, 5, none⟩ = some (.int .u64 13) := HT.out.2 5 (by decide)
  have k6 : w.cell? ⟨0, 6, none⟩ = some (.int .u64 17) := HT.out.2 6 (by decide)
  have k7 : w.cell? ⟨0, 7, none⟩ = some (.int .u64 19) := HT.out.2 7 (by decide)
  have k8 : w.cell? ⟨0, 8, none⟩ = some (.int .u64 23) := HT.out.2 8 (by decide)
  have k9 : w.cell? ⟨0, 9, none⟩ = some (.int .u64 29) := HT.out.2 9 (by decide)
  have k10 : w.cell? ⟨0, 10, none⟩ = some (.int .u64 31) := HT.out.2 10 (by decide)
  have k11 : w.cell? ⟨0, 11, none⟩ = some (.int .u64 37) := HT.out.2 11 (by decide)
  go_wp2_with fail
  clear k0 k1 k2 k3 k4 k5 k6 k7 k8 k9 k10 k11
  go_loopg [17] 12 (fun g s17 wx => ∃ k : Nat, k + g = 12 ∧ s17 = .int .i64 k ∧ Hid (goB n t (triedL.drop k) = goB n t triedL) ∧ ∃ q, wx = w.drewN q)
  case atStart => exact ⟨0, rfl, rfl, Lib.hid rfl, 0, rfl⟩
  case round =>
    obtain ⟨k, hkg, rfl, HG, q, rfl⟩ := hrel
    cases gk with
    | zero =>
      obtain rfl : k = 12 := by omega
      have HE : Hid (true = goB n t triedL) := Lib.hid HG.out
      go_wp2
      (try rw [Exit.noGoto_ret])
      go_ret
      exact ⟨congrArg Ending.returned (congrArg Value.bool HE.out), _, rfl⟩
    | succ g =>
      have hk : k < 12 := by omega
      obtain ⟨p, hd, hp2, hp37, hidx⟩ := tried_at k hk
      have HG2 : Hid (goB n t (p :: triedL.drop (k + 1)) = goB n t triedL) := Lib.hid (by rw [← hd]; exact HG.out)
      clear HG hd
      by_cases hdv : n % p = 0
      · have HE : Hid ((n == p) = goB n t triedL) := Lib.hid (by rw [← HG2.out]; simp only [goB, hdv, if_true]; rfl)
        go_wp2
        (try rw [Exit.noGoto_ret])
        go_ret
        exact ⟨congrArg Ending.returned (congrArg Value.bool HE.out), _, rfl⟩
      · have hdv' : (n % p == 0) = false := by simpa using hdv
        have e0 : 0 ≤ (n - 1) / 2 ^ t := Int.ediv_nonneg (by omega) (Int.le_of_lt (Int.pow_pos (by decide)))
        have e1 : (n - 1) / 2 ^ t ≤ n - 1 := Int.ediv_le_self _ (by omega)
        have HP := Lib.hid (fun w => pow_any p ((n - 1) / 2 ^ t) n w ⟨by omega, by omega⟩ ⟨e0, by omega⟩)
        have hG3 := HG2.out
        simp only [goB, hdv, if_false] at hG3
        have HX := powI_U64 p ((n - 1) / 2 ^ t) n
        unfold passB at hG3
        generalize powI p ((n - 1) / 2 ^ t) n = x0 at HP hG3 HX
        have HU := Lib.hid HX
        clear HX hdv HG2
        by_cases hx1 : x0 = 1
        · have HN : Hid (goB n t (triedL.drop (k + 1)) = goB n t triedL) := Lib.hid (by rw [← hG3]; simp [hx1])
          clear hG3
          have hx1' : (x0 == 1) = true := by simpa using hx1
          clear hx1
          go_wp2_with fail
          refine (HP.out _).mono ?_
          rintro e w' ⟨rfl, n1, rfl⟩
          go_wp2
          go_roundg g
          case measure => omega
          case rel => exact ⟨k + 1, by omega, by go_num, HN, _, rfl⟩
        · have hx1' : (x0 == 1) = false := by simpa using hx1
          have HN : Hid ((if witB n t x0 then goB n t (triedL.drop (k + 1)) else false) = goB n t triedL) := Lib.hid (by rw [← hG3]; simp [hx1'])
          clear hG3 hx1
          go_wp2_with fail
          refine (HP.out _).mono ?_
          rintro e w' ⟨rfl, n1, rfl⟩
          go_wp2_with fail
          clear hidx
          go_loopg [6, 37] t (fun h s6 s37 wx => ∃ (x : Int) (j : Nat), j + h = t ∧ s6 = .int .u64 x ∧ Hid (U64 x) ∧ s37 = .int .i64 j ∧ Hid (witB n h x = witB n t x0) ∧ ∃ q, wx = w.drewN q)
          case atStart => exact ⟨x0, 0, by omega, rfl, HU, rfl, Lib.hid rfl, _, rfl⟩
          case round =>
            obtain ⟨x, j, hj, rfl, hx, rfl, hW, q2, rfl⟩ := hrel
            cases gk with
            | zero =>
              obtain rfl : j = t := by omega
              have HE : Hid (false = goB n j triedL) := Lib.hid (by
                have := HN.out
                rw [← hW.out] at this
                simpa [witB] using this)
              go_wp2
              (try rw [Exit.noGoto_ret])
              go_ret
              exact ⟨congrArg Ending.returned (congrArg Value.bool HE.out), _, rfl⟩
            | succ h =>
              have hjt : (j : Int) < (t : Int) := by omega
              by_cases hxn : x = n - 1
              · have HE : Hid (goB n t (triedL.drop (k + 1)) = goB n t triedL) := Lib.hid (by
                  have := HN.out
                  rw [← hW.out] at this
                  simpa [witB, hxn] using this)
                have hxn' : (x == n - 1) = true := by simpa using hxn
                clear hxn hx1'
                go_wp2
                go_roundg g
                case measure => omega
                case rel => exact ⟨k + 1, by omega, by go_num, HE, _, rfl⟩
              · have hxn' : (x == n - 1) = false := by simpa using hxn
                have HW2 : Hid (witB n h (mulI x x n) = witB n t x0) := Lib.hid (by
                  have := hW.out
                  simpa [witB, hxn'] using this)
                have HX2 := Lib.hid (mulI_U64 x x n)
                clear hxn
                go_wp2_with fail
                refine (mul_any x x n _ hx.out hx.out).mono ?_
                rintro e w' ⟨rfl, n2, rfl⟩
                go_wp2
                go_roundg h
                case measure => omega
                case rel => exact ⟨mulI x x n, j + 1, by omega, rfl, HX2, by go_num, HW2, _, rfl⟩

theorem prime_any (n : Int) (w : World) (hT : TabsAt w) :
    Calls Tryz.prog 64 #[.int .u64 n] w fun e w' => e = .returned (.bool (primeB n)) ∧ ∃ k, w' = w.drewN k := by
  by_cases h : n < 2 ∨ 2305843009213693952 < n
  · rw [show primeB n = false by simp only [primeB, if_pos h]]
    exact prime_out n w h
  · rw [show primeB n = goB n (Lib.ctz 64 (n - 1).toNat) triedL by simp only [primeB, if_neg h]]
    exact prime_in n w (by omega) (by omega) hT
end Go.Proofs.YthicondcjeipfaaGreatDoor

namespace Go.Proofs.YthicondcjeipfaaGreatDoor
open Go.ChangeShapes Go.WideShapes Go.RowKit

/-- Whatever is read at this type reads so. -/
def Reads {α : Type} (E : Enc α) (t : TypeId) : Prop :=
  ∀ {H : Type} {enc : TypeId × Value → H} {w : World} {base : Nat} {spare : Nat → Bool} {held : Bool} {fuel : Nat} {cs : List Value} {x : DataW H × List MemPlace},
    DataW.trod enc Tryz.prog w base spare held fuel t cs = some x → ∃ a, E.rep (fun _ => True) w cs a
end Go.Proofs.YthicondcjeipfaaGreatDoor

namespace Go.Proofs.YthicondcjeipfaaGreatDoor
open Go.RowKit

def withinB (x lo hi : Int) : Bool := decide (lo ≤ x) && decide (x ≤ hi)
theorem withinB_iff (x lo hi : Int) : withinB x lo hi = true ↔ lo ≤ x ∧ x ≤ hi := by simp [withinB]
set_option maxHeartbeats 400000 in
theorem within_eq (x lo hi : Int) (b : Bool) (h : withinB x lo hi = b) (w : World) :
    Calls Tryz.prog 56 #[.int .i64 x, .int .i64 lo, .int .i64 hi] w fun e w' => e = .returned (.bool b) ∧ w' = w := by
  subst h
  by_cases h1 : lo ≤ x
  · by_cases h2 : x ≤ hi
    · have HE : Hid (withinB x lo hi = true) := Lib.hid (by simp [withinB, h1, h2])
      go_enter Tryz.func56, Tryz.ntmps56
      go_wp2
      go_ret
      exact ⟨ret_bool HE.out.symm, rfl⟩
    · have HE : Hid (withinB x lo hi = false) := Lib.hid (by simp [withinB, h2])
      have h2' : decide (x ≤ hi) = false := by simpa using h2
      clear h2
      go_enter Tryz.func56, Tryz.ntmps56
      go_wp2
      go_ret
      exact ⟨ret_bool HE.out.symm, rfl⟩
  · have HE : Hid (withinB x lo hi = false) := Lib.hid (by simp [withinB, h1])
    have h1' : decide (lo ≤ x) = false := by simpa using h1
    clear h1
    go_enter Tryz.func56, Tryz.ntmps56
    go_wp2
    go_ret
    exact ⟨ret_bool HE.out.symm, rfl⟩

def m1 (p : Par) : Bool := decide (2 ≤ p.P) && decide (p.P ≤ 2305843009213693952) && decide (2 ≤ p.Q) && ((p.P - 1) % p.Q == 0)
def m2 (p : Par) : Bool := withinB p.T 1 2
def m3 (p : Par) : Bool := withinB p.N (3 * p.T + 1) 7 && decide (p.N < p.Q)
def m4 (p : Par) : Bool := withinB p.Nodes p.N 8
def m5 (p : Par) : Bool := withinB p.K 1 2 && withinB p.D 1 4
def m6 (p : Par) : Bool := withinB p.R 1 p.D
def m7 (p : Par) : Bool := withinB p.M 1 1048576 && withinB p.X 1 1048576
def m8 (p : Par) : Bool := decide (2 * (p.D * p.M * p.X + p.M) < p.Q)
def m9 (p : Par) : Bool := primeB p.Q && primeB p.P
def m10 (p : Par) : Bool := decide (p.G ≠ 1) && isB p p.G && decide (p.H ≠ 1) && isB p p.H
def mayP (p : Par) : Bool := m1 p && m2 p && m3 p && m4 p && m5 p && m6 p && m7 p && m8 p && m9 p && m10 p

set_option maxHeartbeats 400000 in
theorem may_1 (p : Par) (g : Nat) (w : World) (hp : p.ok) (hb : Bk w g 24 p.cells) :
    Calls Tryz.prog 54 #[.pointer (some ⟨g, 0, none⟩)] w fun e w' => e = .returned (.bool (m1 p)) ∧ w.grownBy w' none := by
  have hc := hb.prule
  obtain ⟨p0, p1⟩ := hp.P
  obtain ⟨q0, q1⟩ := hp.Q
  clear hb hp
  by_cases h1 : 2 ≤ p.P
  · by_cases h2 : p.P ≤ 2305843009213693952
    · by_cases h3 : 2 ≤ p.Q
      · have HE : Hid (m1 p = ((p.P - 1) % p.Q == 0)) := Lib.hid (by simp [m1, h1, h2, h3])
        go_enter Tryz.func54, Tryz.ntmps54
        go_wp2
        go_ret
        exact ⟨ret_bool HE.out.symm, World.grownBy.refl w none⟩
      · have HE : Hid (m1 p = false) := Lib.hid (by simp [m1, h3])
        have h3' : decide (2 ≤ p.Q) = false := by simpa using h3
        clear h3
        go_enter Tryz.func54, Tryz.ntmps54
        go_wp2
        go_ret
        exact ⟨ret_bool HE.out.symm, World.grownBy.refl w none⟩
    · have HE : Hid (m1 p = false) := Lib.hid (by simp [m1, h2])
      have h2' : decide (p.P ≤ 2305843009213693952) = false := by simpa using h2
      clear h2
      go_enter Tryz.func54, Tryz.ntmps54
      go_wp2
      go_ret
      exact ⟨ret_bool HE.out.symm, World.grownBy.refl w none⟩
  · have HE : Hid (m1 p = false) := Lib.hid (by simp [m1, h1])
    have h1' : decide (2 ≤ p.P) = false := by simpa using h1
    clear h1
    go_enter Tryz.func54, Tryz.ntmps54
    go_wp2
    go_ret
    exact ⟨ret_bool HE.out.symm, World.grownBy.refl w none⟩
set_option maxHeartbeats 400000 in
theorem may_2 (p : Par) (g : Nat) (w : World) (hb : Bk w g 24 p.cells) :
    Calls Tryz.prog 55 #[.pointer (some ⟨g, 0, none⟩)] w fun e w' => e = .returned (.bool (m2 p)) ∧ w.grownBy w' none := by
  have hc := hb.prule
  have HW := Lib.hid (fun w => within_eq p.T 1 2 _ rfl w)
  clear hb
  go_enter Tryz.func55, Tryz.ntmps55
  go_wp2_with fail
  refine (HW.out _).mono ?_
  rintro e w' ⟨rfl, rfl⟩
  go_wp2
  go_ret
  exact ⟨rfl, World.grownBy.refl _ none⟩
set_option maxHeartbeats 400000 in
theorem may_3 (p : Par) (g : Nat) (w : World) (hp : p.ok) (hb : Bk w g 24 p.cells) (h2 : m2 p = true) :
    Calls Tryz.prog 57 #[.pointer (some ⟨g, 0, none⟩)] w fun e w' => e = .returned (.bool (m3 p)) ∧ w.grownBy w' none := by
  have hc := hb.prule
  obtain ⟨t0, t1⟩ := (withinB_iff _ _ _).1 h2
  obtain ⟨q0, q1⟩ := hp.Q
  clear hb hp h2
  cases hN : withinB p.N (3 * p.T + 1) 7 with
  | true =>
    obtain ⟨n0, n1⟩ := (withinB_iff _ _ _).1 hN
    have HW := Lib.hid (fun w => within_eq p.N (3 * p.T + 1) 7 _ hN w)
    have HE : Hid (m3 p = decide (p.N < p.Q)) := Lib.hid (by simp [m3, hN])
    clear hN
    go_enter Tryz.func57, Tryz.ntmps57
    go_wp2_with fail
    refine (HW.out _).mono ?_
    rintro e w' ⟨rfl, rfl⟩
    go_wp2
    go_ret
    exact ⟨ret_bool HE.out.symm, World.grownBy.refl _ none⟩
  | false =>
    have HW := Lib.hid (fun w => within_eq p.N (3 * p.T + 1) 7 _ hN w)
    have HE : Hid (m3 p = false) := Lib.hid (by simp [m3, hN])
    clear hN
    go_enter Tryz.func57, Tryz.ntmps57
    go_wp2_with fail
    refine (HW.out _).mono ?_
    rintro e w' ⟨rfl, rfl⟩
    go_wp2
    go_ret
    exact ⟨ret_bool HE.out.symm, World.grownBy.refl _ none⟩
set_option maxHeartbeats 400000 in
theorem may_4 (p : Par) (g : Nat) (w : World) (hb : Bk w g 24 p.cells) :
    Calls Tryz.prog 58 #[.pointer (some ⟨g, 0, none⟩)] w fun e w' => e = .returned (.bool (m4 p)) ∧ w.grownBy w' none := by
  have hc := hb.prule
  have HW := Lib.hid (fun w => within_eq p.Nodes p.N 8 _ rfl w)
  clear hb
  go_enter Tryz.func58, Tryz.ntmps58
  go_wp2_with fail
  refine (HW.out _).mono ?_
  rintro e w' ⟨rfl, rfl⟩
  go_wp2
  go_ret
  exact ⟨rfl, World.grownBy.refl _ none⟩
set_option maxHeartbeats 400000 in
theorem may_5 (p : Par) (g : Nat) (w : World) (hb : Bk w g 24 p.cells) :
    Calls Tryz.prog 59 #[.pointer (some ⟨g, 0, none⟩)] w fun e w' => e = .returned (.bool (m5 p)) ∧ w.grownBy w' none := by
  have hc := hb.prule
  clear hb
  cases hN : withinB p.K 1 2 with
  | true =>
    have HW := Lib.hid (fun w => within_eq p.K 1 2 _ hN w)
    have HV := Lib.hid (fun w => within_eq p.D 1 4 _ rfl w)
    have HE : Hid (m5 p = withinB p.D 1 4) := Lib.hid (by simp [m5, hN])
    clear hN
    go_enter Tryz.func59, Tryz.ntmps59
    go_wp2_with fail
    refine (HW.out _).mono ?_
    rintro e w' ⟨rfl, rfl⟩
    go_wp2_with fail
    refine (HV.out _).mono ?_
    rintro e w' ⟨rfl, rfl⟩
    go_wp2
    go_ret
    exact ⟨ret_bool HE.out.symm, World.grownBy.refl _ none⟩
  | false =>
    have HW := Lib.hid (fun w => within_eq p.K 1 2 _ hN w)
    have HE : Hid (m5 p = false) := Lib.hid (by simp [m5, hN])
    clear hN
    go_enter Tryz.func59, Tryz.ntmps59
    go_wp2_with fail
    refine (HW.out _).mono ?_
    rintro e w' ⟨rfl, rfl⟩
    go_wp2
    go_ret
    exact ⟨ret_bool HE.out.symm, World.grownBy.refl _ none⟩
set_option maxHeartbeats 400000 in
theorem may_6 (p : Par) (g : Nat) (w : World) (hb : Bk w g 24 p.cells) :
    Calls Tryz.prog 60 #[.pointer (some ⟨g, 0, none⟩)] w fun e w' => e = .returned (.bool (m6 p)) ∧ w.grownBy w' none := by
  have hc := hb.prule
  have HW := Lib.hid (fun w => within_eq p.R 1 p.D _ rfl w)
  clear hb
  go_enter Tryz.func60, Tryz.ntmps60
  go_wp2_with fail
  refine (HW.out _).mono ?_
  rintro e w' ⟨rfl, rfl⟩
  go_wp2
  go_ret
  exact ⟨rfl, World.grownBy.refl _ none⟩
set_option maxHeartbeats 400000 in
theorem may_7 (p : Par) (g : Nat) (w : World) (hb : Bk w g 24 p.cells) :
    Calls Tryz.prog 61 #[.pointer (some ⟨g, 0, none⟩)] w fun e w' => e = .returned (.bool (m7 p)) ∧ w.grownBy w' none := by
  have hc := hb.prule
  clear hb
  cases hN : withinB p.M 1 1048576 with
  | true =>
    have HW := Lib.hid (fun w => within_eq p.M 1 1048576 _ hN w)
    have HV := Lib.hid (fun w => within_eq p.X 1 1048576 _ rfl w)
    have HE : Hid (m7 p = withinB p.X 1 1048576) := Lib.hid (by simp [m7, hN])
    clear hN
    go_enter Tryz.func61, Tryz.ntmps61
    go_wp2_with fail
    refine (HW.out _).mono ?_
    rintro e w' ⟨rfl, rfl⟩
    go_wp2_with fail
    refine (HV.out _).mono ?_
    rintro e w' ⟨rfl, rfl⟩
    go_wp2
    go_ret
    exact ⟨ret_bool HE.out.symm, World.grownBy.refl _ none⟩
  | false =>
    have HW := Lib.hid (fun w => within_eq p.M 1 1048576 _ hN w)
    have HE : Hid (m7 p = false) := Lib.hid (by simp [m7, hN])
    clear hN
    go_enter Tryz.func61, Tryz.ntmps61
    go_wp2_with fail
    refine (HW.out _).mono ?_
    rintro e w' ⟨rfl, rfl⟩
    go_wp2
    go_ret
    exact ⟨ret_bool HE.out.symm, World.grownBy.refl _ none⟩
theorem mul_bd (a b x y : Int) (ha0 : 0 ≤ a) (ha : a ≤ x) (hb0 : 0 ≤ b) (hb : b ≤ y) : 0 ≤ a * b ∧ a * b ≤ x * y :=
  ⟨Int.mul_nonneg ha0 hb0, Int.mul_le_mul ha hb hb0 (by omega)⟩
set_option maxHeartbeats 400000 in
theorem may_8 (p : Par) (g : Nat) (w : World) (hp : p.ok) (hb : Bk w g 24 p.cells) (h5 : m5 p = true) (h7 : m7 p = true) :
    Calls Tryz.prog 62 #[.pointer (some ⟨g, 0, none⟩)] w fun e w' => e = .returned (.bool (m8 p)) ∧ w.grownBy w' none := by
  have hc := hb.prule
  simp only [m5, m7, Bool.and_eq_true, withinB_iff] at h5 h7
  obtain ⟨_, d0, d1⟩ := h5
  obtain ⟨⟨a0, a1⟩, x0, x1⟩ := h7
  obtain ⟨q0, q1⟩ := hp.Q
  obtain ⟨e0, e1⟩ := mul_bd p.D p.M 4 1048576 (by omega) d1 (by omega) a1
  obtain ⟨f0, f1⟩ := mul_bd (p.D * p.M) p.X (4 * 1048576) 1048576 e0 e1 (by omega) x1
  have HE : Hid (m8 p = decide (2 * (p.D * p.M * p.X + p.M) < p.Q)) := Lib.hid rfl
  clear hb hp
  go_enter Tryz.func62, Tryz.ntmps62
  go_wp2
  go_ret
  exact ⟨ret_bool HE.out.symm, World.grownBy.refl _ none⟩
end Go.Proofs.YthicondcjeipfaaGreatDoor
