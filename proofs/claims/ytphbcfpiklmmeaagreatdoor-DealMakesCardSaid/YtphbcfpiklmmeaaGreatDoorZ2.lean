/- pedersen.Coms, walked: a range over a function within a range over a function. pedersen.Matrix, walked. pedersen.Formed: slices.ContainsFunc over numbers and over lists of numbers. pedersen.secrets, all, Formed. A region that draws its order, walked ONCE, in the order of its text: each operation (but for a tail that waits for all of them) leaves what lay there as it was, and tells a value of which something is known in every world grown from the region's first. A region that draws its order and writes while it goes on: walked once, when each operation tells one and the same value, and where the worlds stand is told by which operations were carried out. Sums, differences, products modulo a number, and inverses, as calls that leave what was there as it was. The law for drawn regions, in a walk that meets rounds (the wide fence): the tail may call yield. A range over a function whose body never leaves, where what is handed over lies in memory that the iterator has just laid: the body is told what is known of it in the world in which it is called. poly.others, an iterator over how far places are from each other, walked (printed by mk_poly.py). poly.share, walked. poly.may and poly.unlike, walked: what is wrong with places (a map of those met). poly.Weights, walked. share.secrets, small, all, weights, walked. share.all, walked (printed by mk_shrb.py). share.weights, Coms' closures, come over numbers, walked. share.come over numbers, members, walked. share.members, and slices.ContainsFunc at share's closures, walked (printed by mk_shre.py). A pair made in memory. share.Sum's closures, walked (printed by mk_shrf.py). share.come over pairs, walked (printed by mk_shrg.py). share.Sum, walked (printed by mk_shrh.py). fixed.Int, walked. Dealt as data. share.Coms, walked (printed by mk_shrk.py). Draws of a tape, told to what deals: tape.New, deal.secrets, deal.behind, walked. slices.Chunk, an iterator over pieces of a list, walked. A region that draws its order, in which some operations, one behind the other (the late ones: appends, stores), turn what lay there (printed by mk_late.py from XMono). share.Model, walked. deal.two, walked. Pairs, cell by cell. deal.pairs, deal.two, walked (printed by mk_deale.py). poly.Eval; bivar.wide, reads, Col; walked. -/
import Derived.Test.YtphbcfpiklmmeaaGreatDoorZ1
import Derived.Orders
import Derived.StillTail
import Derived.OrdersIn
import Derived.TacticsIn
import Derived.RangeFuncNested
import Derived.Maps.OwnOps
import Derived.Maps.OwnSet
import Derived.Maps.Views
import Derived.WalkKit
import Derived.IntWalk
namespace Go.Proofs.YtphbcfpiklmmeaaGreatDoor
open Go Go.RowKit Go.Shelf

attribute [local go_sem] Oper.semAt_some
theorem wpIn_round_any {P : Program} {ops : Array Oper} {R : Act → World → Prop} {Q : Exit → Act → World → Prop} {l0 n id : Nat} {a : Act} {w : World} (hm : P.follows .mixedOrders = true) (hdf : noDefer ops = true) (hR : ∀ a w, R a w → Q .normal a w)
    (h : wpAny P .any ops (Only R) ops.size (Array.replicate ops.size false) a w.drew) : (Code.region id ops true).wpIn (Fence.wide.inRound l0) n P Q a w :=
  wpIn_region_any hm (wpAnyIn_of_any (noDefer_spec hdf) hR _ _ _ _ h)
def comI (p : Par) (x : List Int × List Int) : List Int := (zipU x.1 x.2).map (commitI p)
def comsI (p : Par) (f r : List (List Int)) : List (List Int) := (zipS f r).map (comI p)
abbrev small1 (c : List Int) : Prop := c.length ≤ 100000
theorem map_val_commit (p : Par) {ys : List UU} {z : List (Int × Int)} (h : ys.map Subtype.val = z) : ys.map (fun y => commitI p y.1) = z.map (commitI p) := by
  rw [← h, List.map_map]
  rfl
theorem map_lists_com (p : Par) {X : Nat → Prop} {w₀ : World} {G : List Int → Prop} {ys : List (SS encU X w₀ G)} {z : List (List Int × List Int)} (h : ys.map SS.lists = z) : ys.map (fun y => comI p y.lists) = z.map (comI p) := by
  rw [← h, List.map_map]
  rfl
set_option maxRecDepth 100000 in
set_option maxHeartbeats 4000000 in
theorem coms_in (n : Nat) (hn : 6 ≤ n) (p : Par) (vf vr : Value) (f r : List (List Int)) (X : Nat → Prop) (w : World) (hp : p.ok) (hf : Sl (encS encU) X w vf f) (hr : Sl (encS encU) X w vr r) (hb1 : f.length ≤ 100000) (hb2 : r.length ≤ 100000) (hb3 : ∀ c ∈ f, small1 c) (hb4 : ∀ c ∈ r, small1 c) :
    CallsIn Fence.wide n Tryz.prog 33 #[p.v, vf, vr] w (Gives (encS encU) (fun g => w.heap.size ≤ g) w (comsI p f r)) := by
  have h1 : 1 ≤ n := by omega
  have HF := Lib.hid hf
  have HR := Lib.hid hr
  have HP := Lib.hid hp
  obtain ⟨A1, c1, rfl, _, _⟩ := hf.form
  obtain ⟨A2, c2, rfl, _, _⟩ := hr.form
  clear hf hr hp
  have HZL : Hid ((zipS f r).length ≤ 100000) := Lib.hid (by simp [zipS]; omega)
  refine callsIn_of_wp_marks Tryz.func33 rfl trivial ?_ rfl
  simp only [Tryz.ntmps33, List.size_toArray, List.length_cons, List.length_nil, Nat.reduceAdd, Nat.reduceSub, Array.replicate_succ, Array.replicate_zero, List.push_toArray, List.append_toArray, List.nil_append, List.cons_append]
  gi_wp2_with (refine ⟨trivial, ?_⟩; refine (callsIn_wide.2 (pairsS_any _ _ _ _ _ _ _)).mono ?_; rintro e w' ⟨rfl, rfl⟩)
  have hs1 : (w.alloc (.cells p.cells 24)).heap.size = w.heap.size + 1 := by simp
  have hs2 : ((w.alloc (.cells p.cells 24)).alloc (.cells #[.slice none 0 0] 32)).heap.size = w.heap.size + 1 + 1 := by simp
  have hs3 : (((w.alloc (.cells p.cells 24)).alloc (.cells #[.slice none 0 0] 32)).alloc (.cells #[.slice A1 f.length c1] 32)).heap.size = w.heap.size + 1 + 1 + 1 := by simp
  have bP : Bk _ w.heap.size 24 p.cells := (((Bk.new w 24 p.cells).alloc (.cells #[.slice none 0 0] 32)).alloc (.cells #[.slice A1 f.length c1] 32)).alloc (.cells #[.slice A2 r.length c2] 32)
  have bO := ((Boxed.new (w.alloc (.cells p.cells 24)) 32 (.slice none 0 0)).alloc (.cells #[.slice A1 f.length c1] 32)).alloc (.cells #[.slice A2 r.length c2] 32)
  have bA := (Boxed.new ((w.alloc (.cells p.cells 24)).alloc (.cells #[.slice none 0 0] 32)) 32 (.slice A1 f.length c1)).alloc (.cells #[.slice A2 r.length c2] 32)
  have bB := Boxed.new (((w.alloc (.cells p.cells 24)).alloc (.cells #[.slice none 0 0] 32)).alloc (.cells #[.slice A1 f.length c1] 32)) 32 (.slice A2 r.length c2)
  rw [hs1] at bO
  rw [hs2] at bA
  rw [hs3] at bB
  have hB0 : Below w.heap.size w ((((w.alloc (.cells p.cells 24)).alloc (.cells #[.slice none 0 0] 32)).alloc (.cells #[.slice A1 f.length c1] 32)).alloc (.cells #[.slice A2 r.length c2] 32)) := below_grown (((World.grownBy_alloc w _ none).trans (World.grownBy_alloc _ _ none)).trans ((World.grownBy_alloc _ _ none).trans (World.grownBy_alloc _ _ none)))
  have hsz : ((((w.alloc (.cells p.cells 24)).alloc (.cells #[.slice none 0 0] 32)).alloc (.cells #[.slice A1 f.length c1] 32)).alloc (.cells #[.slice A2 r.length c2] 32)).heap.size = w.heap.size + 4 := by simp
  obtain ⟨W0, hW0⟩ : ∃ W0, (((w.alloc (.cells p.cells 24)).alloc (.cells #[.slice none 0 0] 32)).alloc (.cells #[.slice A1 f.length c1] 32)).alloc (.cells #[.slice A2 r.length c2] 32) = W0 := ⟨_, rfl⟩
  rw [hW0] at bP bO bA bB hB0 hsz ⊢
  clear hW0 hs1 hs2 hs3
  have HPG : Hid (∀ c ∈ f, small1 c) := Lib.hid hb3
  refine wpIn_rangeFunc_ownH rfl h1 (gf := 122) (lb := #[.pointer (some ⟨w.heap.size + 1 + 1, 0, none⟩), .pointer (some ⟨w.heap.size + 1 + 1 + 1, 0, none⟩)]) rfl trivial (enters_of Tryz.func122 (by kernel_rfl) rfl)
    (pairsS_stops (n - 1) (by omega) (w.heap.size + 1 + 1) (w.heap.size + 1 + 1 + 1) _ _ f r X w W0 small1 (by simp) hb3 hb4 hB0 bA bB HF.out HR.out) KpAB.trans (KpAB.b (by omega) (by omega) (by omega)) (Below.refl _ _) (fun _ => rfl)
    (fun pre W => (∃ v, Boxed W (w.heap.size + 1) 32 v ∧ Acc (encS encU) (w.heap.size + 4) 25 (fun g => w.heap.size + 4 ≤ g) W v (pre.map fun x => comI p x.lists)) ∧ Bk W w.heap.size 24 p.cells ∧ Below w.heap.size w W ∧ Boxed W (w.heap.size + 1 + 1) 32 (.slice A1 f.length c1) ∧ Boxed W (w.heap.size + 1 + 1 + 1) 32 (.slice A2 r.length c2))
    (fun _ _ _ => False)
    (fun pre X Y row hs hg hrow => by
      obtain ⟨⟨v, hb, ha⟩, hk, hB, hb2, hb3⟩ := hs
      have hr' := fun r e => (hrow r e).2
      exact ⟨⟨v, hb.kept hg (boxNe hb hr'), ha.keepc hg hr'⟩, hk.grown hg (cell_ne (hk.cell 0) hr'), hB.grown hg hB.size (fun k e => by have := (hrow k e).1; omega), hb2.kept hg (boxNe hb2 hr'), hb3.kept hg (boxNe hb3 hr')⟩)
    (fun _ _ _ _ _ hs _ _ => hs)
    ⟨⟨_, bO, Acc.nil _ _ _ _ _⟩, bP, hB0, bA, bB⟩
    (fun x a' _ => a' = { tmps := #[p.v, .slice A1 f.length c1, .slice A2 r.length c2, .pointer (some ⟨w.heap.size, 0, none⟩), undef, undef, .slice none 0 0, .pointer (some ⟨w.heap.size + 1, 0, none⟩), x.1.1.1, x.1.2.1, undef, undef, undef, .slice A1 f.length c1, .slice A2 r.length c2, .func (.func 122) #[] #[.pointer (some ⟨w.heap.size + 1 + 1, 0, none⟩), .pointer (some ⟨w.heap.size + 1 + 1 + 1, 0, none⟩)], x.1.1.1, x.1.2.1, undef, undef, undef, undef, undef, undef, undef, undef, undef, undef, undef, undef, undef, undef, undef, undef, undef, undef], defers := [] })
    (fun _ _ _ _ _ _ hs _ _ => hs)
    ?assign ?body ?done ?stop
  case assign =>
    rintro l pre x W K hi hK
    gi_wp2
    exact hK _ _ (KeepsFrom.refl _ _) (KpAB.refl _ _ _ _) hi rfl
  case body =>
    rintro l pre ⟨⟨⟨v1, l1⟩, ⟨v2, l2⟩⟩, ⟨hv1, hg1⟩, ⟨hv2, hg2⟩⟩ a' W hl ⟨r0, hr0⟩ ⟨⟨v, hbo, hao⟩, hbp, hbl, hba, hbb⟩ rfl hlt
    have k1 : Sl encU X w v1 l1 := hv1
    have k2 : Sl encU X w v2 l2 := hv2
    have k3 : l1.length ≤ 100000 := hg1
    have k4 : l2.length ≤ 100000 := hg2
    have HV1 := Lib.hid k1
    have HV2 := Lib.hid k2
    obtain ⟨D1, d1, rfl, _, _⟩ := k1.form
    obtain ⟨D2, d2, rfl, _, _⟩ := k2.form
    have HSM : Hid ((zipU l1 l2).length ≤ 100000) := Lib.hid (by simp [zipU]; omega)
    have HPL : Hid (pre.length < 100000) := Lib.hid (Nat.lt_of_lt_of_le hlt HZL.out)
    clear k1 k2 k3 k4 hlt
    dsimp only
    gi_wp2_with (refine ⟨trivial, fun _ => by omega, ?_⟩; refine (CallsIn.inRound l (callsIn_wide.2 (pairsU_any _ _ _ _ _ _ _))).mono ?_; rintro e w' ⟨rfl, rfl⟩)
    have hs1 : (W.alloc (.cells #[.slice none 0 0] 25)).heap.size = W.heap.size + 1 := by simp
    have hs2 : ((W.alloc (.cells #[.slice none 0 0] 25)).alloc (.cells #[.slice D1 l1.length d1] 25)).heap.size = W.heap.size + 1 + 1 := by simp
    have bL := ((Boxed.new W 25 (.slice none 0 0)).alloc (.cells #[.slice D1 l1.length d1] 25)).alloc (.cells #[.slice D2 l2.length d2] 25)
    have bC := (Boxed.new (W.alloc (.cells #[.slice none 0 0] 25)) 25 (.slice D1 l1.length d1)).alloc (.cells #[.slice D2 l2.length d2] 25)
    have bD := Boxed.new ((W.alloc (.cells #[.slice none 0 0] 25)).alloc (.cells #[.slice D1 l1.length d1] 25)) 25 (.slice D2 l2.length d2)
    rw [hs1] at bC
    rw [hs2] at bD
    have hg2 : W.grownBy (((W.alloc (.cells #[.slice none 0 0] 25)).alloc (.cells #[.slice D1 l1.length d1] 25)).alloc (.cells #[.slice D2 l2.length d2] 25)) none := ((World.grownBy_alloc W _ none).trans (World.grownBy_alloc _ _ none)).trans (World.grownBy_alloc _ _ none)
    have hsz2 : (((W.alloc (.cells #[.slice none 0 0] 25)).alloc (.cells #[.slice D1 l1.length d1] 25)).alloc (.cells #[.slice D2 l2.length d2] 25)).heap.size = W.heap.size + 3 := by simp
    obtain ⟨W2, hW2⟩ : ∃ W2, ((W.alloc (.cells #[.slice none 0 0] 25)).alloc (.cells #[.slice D1 l1.length d1] 25)).alloc (.cells #[.slice D2 l2.length d2] 25) = W2 := ⟨_, rfl⟩
    rw [hW2] at bL bC bD hg2 hsz2 ⊢
    clear hW2 hs1 hs2
    have hNW := hbl.size
    have hbW2 : Below w.heap.size w W2 := hbl.trans ((below_grown hg2).mono hNW)
    have hr' : W2.heap[l]? = some (.loop r0) := (hg2.block l (Array.getElem?_eq_some_iff.1 hr0).1 (by simp)).trans hr0
    have hkf2 : KeepsFrom W0.heap.size W W2 := (keeps_none hg2).from _
    refine wpIn_rangeFunc_ownN (l₀ := l) (r₀ := r0) rfl hr' (by omega) (gf := 124) (lb := #[.pointer (some ⟨W.heap.size + 1, 0, none⟩), .pointer (some ⟨W.heap.size + 1 + 1, 0, none⟩)]) rfl trivial (enters_of Tryz.func124 (by kernel_rfl) rfl)
      ((pairsU_stops (n - 1 - 1 - 1) (by omega) (W.heap.size + 1) (W.heap.size + 1 + 1) _ _ l1 l2 X w W2 hbW2 bC bD HV1.out HV2.out).inRound l) KpAB.trans (KpAB.b (by omega) (by omega) (by omega)) (Below.refl _ _) (fun _ => rfl)
      (fun pre' W' => (∃ u, Boxed W' W.heap.size 25 u ∧ Acc encU (W.heap.size + 3) 22 (fun g => W.heap.size + 3 ≤ g) W' u (pre'.map fun y => commitI p y.1)) ∧ Below W.heap.size W W' ∧ KeepsFrom W0.heap.size W W' ∧ Boxed W' (W.heap.size + 1) 25 (.slice D1 l1.length d1) ∧ Boxed W' (W.heap.size + 1 + 1) 25 (.slice D2 l2.length d2))
      (fun _ _ _ => False)
      (fun pre' X' Y row hs hg hrow => by
        obtain ⟨⟨u, hb, ha⟩, hB, hK, hb2, hb3⟩ := hs
        have hr' := fun r e => (hrow r e).2
        exact ⟨⟨u, hb.kept hg (boxNe hb hr'), ha.keepc hg hr'⟩, hB.grown hg hB.size (fun k e => by have := (hrow k e).1; omega), ownFrom_keepsFrom (B' := W2.heap.size) hg2.size () X' Y row hK hg hrow, hb2.kept hg (boxNe hb2 hr'), hb3.kept hg (boxNe hb3 hr')⟩)
      (fun _ _ _ _ _ hs _ _ => hs)
      ⟨⟨_, bL, Acc.nil _ _ _ _ _⟩, below_grown hg2, hkf2, bC, bD⟩
      (fun y a'' _ => a'' = { tmps := #[p.v, .slice A1 f.length c1, .slice A2 r.length c2, .pointer (some ⟨w.heap.size, 0, none⟩), undef, undef, .slice none 0 0, .pointer (some ⟨w.heap.size + 1, 0, none⟩), .slice D1 l1.length d1, .slice D2 l2.length d2, .pointer (some ⟨W.heap.size, 0, none⟩), .int .u64 y.1.1, .int .u64 y.1.2, .slice A1 f.length c1, .slice A2 r.length c2, .func (.func 122) #[] #[.pointer (some ⟨w.heap.size + 1 + 1, 0, none⟩), .pointer (some ⟨w.heap.size + 1 + 1 + 1, 0, none⟩)], .slice D1 l1.length d1, .slice D2 l2.length d2, .slice D1 l1.length d1, .slice D2 l2.length d2, .func (.func 124) #[] #[.pointer (some ⟨W.heap.size + 1, 0, none⟩), .pointer (some ⟨W.heap.size + 1 + 1, 0, none⟩)], .int .u64 y.1.1, .int .u64 y.1.2, undef, undef, undef, undef, undef, undef, undef, undef, undef, undef, undef, undef, undef], defers := [] })
      (fun _ _ _ _ _ _ hs _ _ => hs)
      ?assign2 ?body2 ?done2 ?stop2
    case assign2 =>
      rintro lq pre' y W' K hi hK
      gi_wp2
      exact hK _ _ (KeepsFrom.refl _ _) (KpAB.refl _ _ _ _) hi rfl
    case body2 =>
      rintro lq pre' ⟨⟨y1, y2⟩, hu1, hu2⟩ a'' W' hl2 _ ⟨⟨u, hbu, hau⟩, hBW, hKF, hbc, hbd⟩ rfl hlt2
      have HY1 : Hid (U64 y1) := Lib.hid hu1
      have HY2 : Hid (U64 y2) := Lib.hid hu2
      obtain ⟨A3, c3, e3, _, _⟩ := hau.sl.form
      rw [List.length_map] at e3
      subst e3
      have HAC := Lib.hid hau
      have HBL := Lib.hid hbu
      have HBC := Lib.hid hbc
      have HBD := Lib.hid hbd
      have HBW := Lib.hid hBW
      have HKF := Lib.hid hKF
      have hltM : W.heap.size < W'.heap.size := hbu.lt
      have hltN : w.heap.size < W'.heap.size := by omega
      have HS0 : Hid (W.heap.size + 3 ≤ W'.heap.size) := Lib.hid (by have := hbd.lt; omega)
      have hpr := (hbp.grown (grown_of_below hBW) (by simp)).prule
      have cU := hbu.cell
      have HCU : Hid (U64 (commitI p (y1, y2))) := Lib.hid (timesI_U64 _ _)
      have HLB : Hid (((pre'.map fun y : UU => commitI p y.1).length + 1) * 8 ≤ 140737488355328) := Lib.hid (by rw [List.length_map]; have := HSM.out; omega)
      clear hau hbc hbd hBW hKF hbu hlt2
      have FIN : ∀ (w3 w4 : World) (A4 : Option Addr) (n4 c4 : Nat), W'.grownBy w3 none → w3.grownBy w4 (Value.slice A3 pre'.length c3).ownBlock → Acc encU (W.heap.size + 3) 22 (fun g => W.heap.size + 3 ≤ g) w3 (.slice A3 pre'.length c3) (pre'.map fun y : UU => commitI p y.1) → Acc encU (W.heap.size + 3) 22 (fun g => W.heap.size + 3 ≤ g) w4 (.slice A4 n4 c4) ((pre'.map fun y : UU => commitI p y.1) ++ [commitI p (y1, y2)]) → Boxed w4 W.heap.size 25 (.slice A3 pre'.length c3) → (fun w5 : World => KeepsFrom W2.heap.size W' w5 ∧ KpAB w.heap.size (W.heap.size + 1) (W.heap.size + 1 + 1) W' w5 ∧ (∃ u, Boxed w5 W.heap.size 25 u ∧ Acc encU (W.heap.size + 3) 22 (fun g => W.heap.size + 3 ≤ g) w5 u ((pre' ++ [(⟨(y1, y2), hu1, hu2⟩ : UU)]).map fun y => commitI p y.1)) ∧ Below W.heap.size W w5 ∧ KeepsFrom W0.heap.size W w5 ∧ Boxed w5 (W.heap.size + 1) 25 (.slice D1 l1.length d1) ∧ Boxed w5 (W.heap.size + 1 + 1) 25 (.slice D2 l2.length d2)) (w4.setCell ⟨W.heap.size, 0, none⟩ (.slice A4 n4 c4)) := by
        intro w3 w4 A4 n4 c4 hG3 hG4 hA3 hA4 hB4
        have hN2 : ∀ k, k < W.heap.size + 3 → some k ≠ (Value.slice A3 pre'.length c3).ownBlock := fun k hk e => by have := (hA3.lt k e.symm).1; omega
        have hN3 : ∀ k, (Value.slice A3 pre'.length c3).ownBlock = some k → W.heap.size + 3 ≤ k := fun k e => (hA3.lt k e).1
        have hK5 : KeepsOthers W' (w4.setCell ⟨W.heap.size, 0, none⟩ (.slice A4 n4 c4)) := ((keeps_none hG3).trans (hA3.keeps hG4)).trans (KeepsOthers.setCell _ _ _)
        have b1 := ((HBC.out.kept hG3 (by simp)).kept hG4 (hN2 _ (by omega))).other (B' := W.heap.size) (by omega) (.slice A4 n4 c4)
        have b2 := ((HBD.out.kept hG3 (by simp)).kept hG4 (hN2 _ (by omega))).other (B' := W.heap.size) (by omega) (.slice A4 n4 c4)
        have hS3 : W'.heap.size ≤ w3.heap.size := hG3.size
        refine ⟨hK5.from _, ⟨(((Below.refl _ W').grown hG3 (by omega) (by simp)).grown hG4 (by omega) (fun k e => by have := hN3 k e; omega)).setCell (p := ⟨W.heap.size, 0, none⟩) hNW _, Eq.trans b1 (Eq.symm HBC.out), Eq.trans b2 (Eq.symm HBD.out)⟩, ⟨_, hB4.set _, ?_⟩, ((HBW.out.grown hG3 (by omega) (by simp)).grown hG4 (by omega) (fun k e => by have := hN3 k e; omega)).setCell (p := ⟨W.heap.size, 0, none⟩) (Nat.le_refl _) _, HKF.out.trans (hK5.from _), b1, b2⟩
        rw [List.map_append]
        exact hA4.keep (grownBy_setCell' w4 W.heap.size _) (fun g hg e => by injection e with e; omega)
      dsimp only
      gi_wp2
      refine wpIn_round_any (l0 := lq) (R := fun _ w5 => KeepsFrom W2.heap.size W' w5 ∧ KpAB w.heap.size (W.heap.size + 1) (W.heap.size + 1 + 1) W' w5 ∧ (∃ u, Boxed w5 W.heap.size 25 u ∧ Acc encU (W.heap.size + 3) 22 (fun g => W.heap.size + 3 ≤ g) w5 u ((pre' ++ [(⟨(y1, y2), hu1, hu2⟩ : UU)]).map fun y => commitI p y.1)) ∧ Below W.heap.size W w5 ∧ KeepsFrom W0.heap.size W w5 ∧ Boxed w5 (W.heap.size + 1) 25 (.slice D1 l1.length d1) ∧ Boxed w5 (W.heap.size + 1 + 1) 25 (.slice D2 l2.length d2)) (by kernel_rfl) (by kernel_rfl) (fun a w h => h) ?_
      refine wpAny_take (i := 2) (oi := ({ dst := some 25, op := Op.move (Operand.tmp 11), type := 22, pos := "pedersen.go:41", after := #[], guard := none } : Oper)) (v := ?vq1) rfl (by kernel_rfl) (by kernel_rfl) (by kernel_rfl) (fun _ _ _ h => h) (Or.inl ⟨by rfl, ?hq1⟩) ?rq1
      case hq1 => (intro w; go_simp; first | done | with_reducible rfl)
      try simp only [Act.put, List.setIfInBounds_toArray, List.set_cons_zero, List.set_cons_succ]
      refine wpAny_take (i := 3) (oi := ({ dst := some 26, op := Op.move (Operand.tmp 12), type := 22, pos := "pedersen.go:41", after := #[], guard := none } : Oper)) (v := ?vq2) rfl (by kernel_rfl) (by kernel_rfl) (by kernel_rfl) (fun _ _ _ h => h) (Or.inl ⟨by rfl, ?hq2⟩) ?rq2
      case hq2 => (intro w; go_simp; first | done | with_reducible rfl)
      try simp only [Act.put, List.setIfInBounds_toArray, List.set_cons_zero, List.set_cons_succ]
      refine wpAny_take (i := 4) (oi := ({ dst := some 27, op := Op.build 58 #[(0, Operand.tmp 25), (1, Operand.tmp 26)], type := 58, pos := "pedersen.go:41", after := #[{ on := 2, ground := Ground.data }, { on := 3, ground := Ground.data }], guard := none } : Oper)) (v := ?vq3) rfl (by kernel_rfl) (by kernel_rfl) (by kernel_rfl) (fun _ _ _ h => h) (Or.inl ⟨by rfl, ?hq3⟩) ?rq3
      case hq3 => (intro w; go_simp; first | done | with_reducible rfl)
      try simp only [Act.put, List.setIfInBounds_toArray, List.set_cons_zero, List.set_cons_succ]
      refine wpAny_ready (rs := [0, 1]) (by kernel_rfl) (by simp) ?_
      refine AllReady.cons (o := ({ dst := some 23, op := Op.load 25 (Operand.tmp 10), type := 25, pos := "pedersen.go:41", after := #[], guard := none } : Oper)) rfl (fun K hK => ?_) ?_
      · skip
        go_simp
        refine hK _ _ ?_
        clear hK K
        try simp only [Act.put, List.setIfInBounds_toArray, List.set_cons_zero, List.set_cons_succ]
        refine wpAny_ready (rs := [1]) (by kernel_rfl) (by simp) ?_
        refine AllReady.cons (o := ({ dst := some 24, op := Op.load 24 (Operand.tmp 3), type := 24, pos := "pedersen.go:41", after := #[], guard := none } : Oper)) rfl (fun K hK => ?_) AllReady.nil
        go_simp
        refine hK _ _ ?_
        clear hK K
        try simp only [Act.put, List.setIfInBounds_toArray, List.set_cons_zero, List.set_cons_succ]
        refine wpAny_ready (rs := [5]) (by kernel_rfl) (by simp) ?_
        refine AllReady.cons (o := ({ dst := some 28, op := Op.call { callee := Callee.value (Operand.func 90), args := #[Operand.tmp 24, Operand.tmp 27], argTypes := #[24, 58] }, type := 22, pos := "pedersen.go:41", after := #[{ on := 1, ground := Ground.data }, { on := 4, ground := Ground.data }], guard := none } : Oper)) rfl (fun K hK => ?_) AllReady.nil
        go_simp
        (go_at_call 90; (with_reducible refine (commit_any p (y1, y2) _ HP.out HY1.out HY2.out).mono ?_); rintro e w3 ⟨rfl, hg3⟩)
        have HG3 : Hid (W'.grownBy w3 none) := Lib.hid ((grown_drewN' W' 1).trans hg3)
        have HA3 := Lib.hid (HAC.out.kept HG3.out)
        have HB3 := Lib.hid (HBL.out.kept HG3.out (by simp))
        have HSZ : Hid (W.heap.size + 3 ≤ w3.heap.size) := Lib.hid (Nat.le_trans HS0.out HG3.out.size)
        have HNX : Hid (∀ g, w3.heap.size ≤ g → W.heap.size + 3 ≤ g) := Lib.hid (fun g hg => Nat.le_trans HSZ.out hg)
        have HNE : Hid (some W.heap.size ≠ (Value.slice A3 pre'.length c3).ownBlock) := Lib.hid (fun e => by have := (HA3.out.lt _ e.symm).1; omega)
        have hc3 := HB3.out.cell
        have hc3a := (HB3.out.alloc (.cells #[.int .u64 (commitI p (y1, y2))] 22)).cell
        clear hg3
        dsimp only
        refine hK _ _ ?_
        clear hK K
        try simp only [Act.put, List.setIfInBounds_toArray, List.set_cons_zero, List.set_cons_succ]
        refine wpAny_ready (rs := [6]) (by kernel_rfl) (by simp) ?_
        refine AllReady.cons (o := ({ dst := some 29, op := Op.buildSlice 25 1 #[(0, Operand.tmp 28)], type := 25, pos := "pedersen.go:41", after := #[{ on := 5, ground := Ground.data }], guard := none } : Oper)) rfl (fun K hK => ?_) AllReady.nil
        go_simp
        refine hK _ _ ?_
        clear hK K
        try simp only [Act.put, List.setIfInBounds_toArray, List.set_cons_zero, List.set_cons_succ]
        refine wpAny_ready (rs := [7]) (by kernel_rfl) (by simp) ?_
        refine AllReady.cons (o := ({ dst := some 30, op := Op.call { callee := Callee.builtin Builtin.append, args := #[Operand.tmp 23, Operand.tmp 29], argTypes := #[25, 25] }, type := 25, pos := "pedersen.go:41", after := #[{ on := 0, ground := Ground.data }, { on := 6, ground := Ground.data }, { on := 5, ground := Ground.chain }], guard := none } : Oper)) rfl (fun K hK => ?_) AllReady.nil
        refine step_push rfl (.tmp 23) (.tmp 29) rfl (E := encU) (y := commitI p (y1, y2)) el_u64 HA3.out rfl rfl ⟨rfl, HCU.out⟩ HLB.out HSZ.out HNX.out ?_
        intro v4 w4 hacc4 hg4 _
        obtain ⟨A4, c4, e4, _, _⟩ := hacc4.sl.form
        generalize (List.map (fun y : UU => commitI p y.1) pre' ++ [commitI p (y1, y2)]).length = n4 at e4
        subst e4
        have HA4 := Lib.hid hacc4
        have HG4 := Lib.hid hg4
        have hB4 := HB3.out.kept HG4.out HNE.out
        have cB4 := hB4.cell
        have fB4 := hB4.frozen
        have HB4 := Lib.hid hB4
        clear hacc4 hg4 hB4
        refine hK _ _ ?_
        clear hK K
        try simp only [Act.put, List.setIfInBounds_toArray, List.set_cons_zero, List.set_cons_succ]
        refine wpAny_ready (rs := [8]) (by kernel_rfl) (by simp) ?_
        refine AllReady.cons (o := ({ dst := none, op := Op.store 25 (Operand.tmp 10) (Operand.tmp 30), type := 0, pos := "pedersen.go:41", after := #[{ on := 7, ground := Ground.data }, { on := 7, ground := Ground.chain }, { on := 0, ground := Ground.phase }, { on := 1, ground := Ground.phase }, { on := 2, ground := Ground.phase }, { on := 3, ground := Ground.phase }, { on := 4, ground := Ground.phase }, { on := 5, ground := Ground.phase }, { on := 6, ground := Ground.phase }, { on := 7, ground := Ground.phase }], guard := none } : Oper)) rfl (fun K hK => ?_) AllReady.nil
        go_simp
        refine hK _ _ ?_
        clear hK K
        try simp only [Act.put, List.setIfInBounds_toArray, List.set_cons_zero, List.set_cons_succ]
        refine wpAny_done (by kernel_rfl) ?_ _
        exact ⟨rfl, FIN w3 w4 A4 n4 c4 HG3.out HG4.out HA3.out HA4.out HB4.out⟩
      refine AllReady.cons (o := ({ dst := some 24, op := Op.load 24 (Operand.tmp 3), type := 24, pos := "pedersen.go:41", after := #[], guard := none } : Oper)) rfl (fun K hK => ?_) AllReady.nil
      go_simp
      refine hK _ _ ?_
      clear hK K
      try simp only [Act.put, List.setIfInBounds_toArray, List.set_cons_zero, List.set_cons_succ]
      refine wpAny_ready (rs := [0, 5]) (by kernel_rfl) (by simp) ?_
      refine AllReady.cons (o := ({ dst := some 23, op := Op.load 25 (Operand.tmp 10), type := 25, pos := "pedersen.go:41", after := #[], guard := none } : Oper)) rfl (fun K hK => ?_) ?_
      · skip
        go_simp
        refine hK _ _ ?_
        clear hK K
        try simp only [Act.put, List.setIfInBounds_toArray, List.set_cons_zero, List.set_cons_succ]
        refine wpAny_ready (rs := [5]) (by kernel_rfl) (by simp) ?_
        refine AllReady.cons (o := ({ dst := some 28, op := Op.call { callee := Callee.value (Operand.func 90), args := #[Operand.tmp 24, Operand.tmp 27], argTypes := #[24, 58] }, type := 22, pos := "pedersen.go:41", after := #[{ on := 1, ground := Ground.data }, { on := 4, ground := Ground.data }], guard := none } : Oper)) rfl (fun K hK => ?_) AllReady.nil
        go_simp
        (go_at_call 90; (with_reducible refine (commit_any p (y1, y2) _ HP.out HY1.out HY2.out).mono ?_); rintro e w3 ⟨rfl, hg3⟩)
        have HG3 : Hid (W'.grownBy w3 none) := Lib.hid ((grown_drewN' W' 1).trans hg3)
        have HA3 := Lib.hid (HAC.out.kept HG3.out)
        have HB3 := Lib.hid (HBL.out.kept HG3.out (by simp))
        have HSZ : Hid (W.heap.size + 3 ≤ w3.heap.size) := Lib.hid (Nat.le_trans HS0.out HG3.out.size)
        have HNX : Hid (∀ g, w3.heap.size ≤ g → W.heap.size + 3 ≤ g) := Lib.hid (fun g hg => Nat.le_trans HSZ.out hg)
        have HNE : Hid (some W.heap.size ≠ (Value.slice A3 pre'.length c3).ownBlock) := Lib.hid (fun e => by have := (HA3.out.lt _ e.symm).1; omega)
        have hc3 := HB3.out.cell
        have hc3a := (HB3.out.alloc (.cells #[.int .u64 (commitI p (y1, y2))] 22)).cell
        clear hg3
        dsimp only
        refine hK _ _ ?_
        clear hK K
        try simp only [Act.put, List.setIfInBounds_toArray, List.set_cons_zero, List.set_cons_succ]
        refine wpAny_ready (rs := [6]) (by kernel_rfl) (by simp) ?_
        refine AllReady.cons (o := ({ dst := some 29, op := Op.buildSlice 25 1 #[(0, Operand.tmp 28)], type := 25, pos := "pedersen.go:41", after := #[{ on := 5, ground := Ground.data }], guard := none } : Oper)) rfl (fun K hK => ?_) AllReady.nil
        go_simp
        refine hK _ _ ?_
        clear hK K
        try simp only [Act.put, List.setIfInBounds_toArray, List.set_cons_zero, List.set_cons_succ]
        refine wpAny_ready (rs := [7]) (by kernel_rfl) (by simp) ?_
        refine AllReady.cons (o := ({ dst := some 30, op := Op.call { callee := Callee.builtin Builtin.append, args := #[Operand.tmp 23, Operand.tmp 29], argTypes := #[25, 25] }, type := 25, pos := "pedersen.go:41", after := #[{ on := 0, ground := Ground.data }, { on := 6, ground := Ground.data }, { on := 5, ground := Ground.chain }], guard := none } : Oper)) rfl (fun K hK => ?_) AllReady.nil
        refine step_push rfl (.tmp 23) (.tmp 29) rfl (E := encU) (y := commitI p (y1, y2)) el_u64 HA3.out rfl rfl ⟨rfl, HCU.out⟩ HLB.out HSZ.out HNX.out ?_
        intro v4 w4 hacc4 hg4 _
        obtain ⟨A4, c4, e4, _, _⟩ := hacc4.sl.form
        generalize (List.map (fun y : UU => commitI p y.1) pre' ++ [commitI p (y1, y2)]).length = n4 at e4
        subst e4
        have HA4 := Lib.hid hacc4
        have HG4 := Lib.hid hg4
        have hB4 := HB3.out.kept HG4.out HNE.out
        have cB4 := hB4.cell
        have fB4 := hB4.frozen
        have HB4 := Lib.hid hB4
        clear hacc4 hg4 hB4
        refine hK _ _ ?_
        clear hK K
        try simp only [Act.put, List.setIfInBounds_toArray, List.set_cons_zero, List.set_cons_succ]
        refine wpAny_ready (rs := [8]) (by kernel_rfl) (by simp) ?_
        refine AllReady.cons (o := ({ dst := none, op := Op.store 25 (Operand.tmp 10) (Operand.tmp 30), type := 0, pos := "pedersen.go:41", after := #[{ on := 7, ground := Ground.data }, { on := 7, ground := Ground.chain }, { on := 0, ground := Ground.phase }, { on := 1, ground := Ground.phase }, { on := 2, ground := Ground.phase }, { on := 3, ground := Ground.phase }, { on := 4, ground := Ground.phase }, { on := 5, ground := Ground.phase }, { on := 6, ground := Ground.phase }, { on := 7, ground := Ground.phase }], guard := none } : Oper)) rfl (fun K hK => ?_) AllReady.nil
        go_simp
        refine hK _ _ ?_
        clear hK K
        try simp only [Act.put, List.setIfInBounds_toArray, List.set_cons_zero, List.set_cons_succ]
        refine wpAny_done (by kernel_rfl) ?_ _
        exact ⟨rfl, FIN w3 w4 A4 n4 c4 HG3.out HG4.out HA3.out HA4.out HB4.out⟩
      refine AllReady.cons (o := ({ dst := some 28, op := Op.call { callee := Callee.value (Operand.func 90), args := #[Operand.tmp 24, Operand.tmp 27], argTypes := #[24, 58] }, type := 22, pos := "pedersen.go:41", after := #[{ on := 1, ground := Ground.data }, { on := 4, ground := Ground.data }], guard := none } : Oper)) rfl (fun K hK => ?_) AllReady.nil
      go_simp
      (go_at_call 90; (with_reducible refine (commit_any p (y1, y2) _ HP.out HY1.out HY2.out).mono ?_); rintro e w3 ⟨rfl, hg3⟩)
      have HG3 : Hid (W'.grownBy w3 none) := Lib.hid ((grown_drewN' W' 1).trans hg3)
      have HA3 := Lib.hid (HAC.out.kept HG3.out)
      have HB3 := Lib.hid (HBL.out.kept HG3.out (by simp))
      have HSZ : Hid (W.heap.size + 3 ≤ w3.heap.size) := Lib.hid (Nat.le_trans HS0.out HG3.out.size)
      have HNX : Hid (∀ g, w3.heap.size ≤ g → W.heap.size + 3 ≤ g) := Lib.hid (fun g hg => Nat.le_trans HSZ.out hg)
      have HNE : Hid (some W.heap.size ≠ (Value.slice A3 pre'.length c3).ownBlock) := Lib.hid (fun e => by have := (HA3.out.lt _ e.symm).1; omega)
      have hc3 := HB3.out.cell
      have hc3a := (HB3.out.alloc (.cells #[.int .u64 (commitI p (y1, y2))] 22)).cell
      clear hg3
      dsimp only
      refine hK _ _ ?_
      clear hK K
      try simp only [Act.put, List.setIfInBounds_toArray, List.set_cons_zero, List.set_cons_succ]
      refine wpAny_ready (rs := [0, 6]) (by kernel_rfl) (by simp) ?_
      refine AllReady.cons (o := ({ dst := some 23, op := Op.load 25 (Operand.tmp 10), type := 25, pos := "pedersen.go:41", after := #[], guard := none } : Oper)) rfl (fun K hK => ?_) ?_
      · skip
        go_simp
        refine hK _ _ ?_
        clear hK K
        try simp only [Act.put, List.setIfInBounds_toArray, List.set_cons_zero, List.set_cons_succ]
        refine wpAny_ready (rs := [6]) (by kernel_rfl) (by simp) ?_
        refine AllReady.cons (o := ({ dst := some 29, op := Op.buildSlice 25 1 #[(0, Operand.tmp 28)], type := 25, pos := "pedersen.go:41", after := #[{ on := 5, ground := Ground.data }], guard := none } : Oper)) rfl (fun K hK => ?_) AllReady.nil
        go_simp
        refine hK _ _ ?_
        clear hK K
        try simp only [Act.put, List.setIfInBounds_toArray, List.set_cons_zero, List.set_cons_succ]
        refine wpAny_ready (rs := [7]) (by kernel_rfl) (by simp) ?_
        refine AllReady.cons (o := ({ dst := some 30, op := Op.call { callee := Callee.builtin Builtin.append, args := #[Operand.tmp 23, Operand.tmp 29], argTypes := #[25, 25] }, type := 25, pos := "pedersen.go:41", after := #[{ on := 0, ground := Ground.data }, { on := 6, ground := Ground.data }, { on := 5, ground := Ground.chain }], guard := none } : Oper)) rfl (fun K hK => ?_) AllReady.nil
        refine step_push rfl (.tmp 23) (.tmp 29) rfl (E := encU) (y := commitI p (y1, y2)) el_u64 HA3.out rfl rfl ⟨rfl, HCU.out⟩ HLB.out HSZ.out HNX.out ?_
        intro v4 w4 hacc4 hg4 _
        obtain ⟨A4, c4, e4, _, _⟩ := hacc4.sl.form
        generalize (List.map (fun y : UU => commitI p y.1) pre' ++ [commitI p (y1, y2)]).length = n4 at e4
        subst e4
        have HA4 := Lib.hid hacc4
        have HG4 := Lib.hid hg4
        have hB4 := HB3.out.kept HG4.out HNE.out
        have cB4 := hB4.cell
        have fB4 := hB4.frozen
        have HB4 := Lib.hid hB4
        clear hacc4 hg4 hB4
        refine hK _ _ ?_
        clear hK K
        try simp only [Act.put, List.setIfInBounds_toArray, List.set_cons_zero, List.set_cons_succ]
        refine wpAny_ready (rs := [8]) (by kernel_rfl) (by simp) ?_
        refine AllReady.cons (o := ({ dst := none, op := Op.store 25 (Operand.tmp 10) (Operand.tmp 30), type := 0, pos := "pedersen.go:41", after := #[{ on := 7, ground := Ground.data }, { on := 7, ground := Ground.chain }, { on := 0, ground := Ground.phase }, { on := 1, ground := Ground.phase }, { on := 2, ground := Ground.phase }, { on := 3, ground := Ground.phase }, { on := 4, ground := Ground.phase }, { on := 5, ground := Ground.phase }, { on := 6, ground := Ground.phase }, { on := 7, ground := Ground.phase }], guard := none } : Oper)) rfl (fun K hK => ?_) AllReady.nil
        go_simp
        refine hK _ _ ?_
        clear hK K
        try simp only [Act.put, List.setIfInBounds_toArray, List.set_cons_zero, List.set_cons_succ]
        refine wpAny_done (by kernel_rfl) ?_ _
        exact ⟨rfl, FIN w3 w4 A4 n4 c4 HG3.out HG4.out HA3.out HA4.out HB4.out⟩
      refine AllReady.cons (o := ({ dst := some 29, op := Op.buildSlice 25 1 #[(0, Operand.tmp 28)], type := 25, pos := "pedersen.go:41", after := #[{ on := 5, ground := Ground.data }], guard := none } : Oper)) rfl (fun K hK => ?_) AllReady.nil
      go_simp
      refine hK _ _ ?_
      clear hK K
      try simp only [Act.put, List.setIfInBounds_toArray, List.set_cons_zero, List.set_cons_succ]
      refine wpAny_ready (rs := [0]) (by kernel_rfl) (by simp) ?_
      refine AllReady.cons (o := ({ dst := some 23, op := Op.load 25 (Operand.tmp 10), type := 25, pos := "pedersen.go:41", after := #[], guard := none } : Oper)) rfl (fun K hK => ?_) AllReady.nil
      go_simp
      refine hK _ _ ?_
      clear hK K
      try simp only [Act.put, List.setIfInBounds_toArray, List.set_cons_zero, List.set_cons_succ]
      refine wpAny_ready (rs := [7]) (by kernel_rfl) (by simp) ?_
      refine AllReady.cons (o := ({ dst := some 30, op := Op.call { callee := Callee.builtin Builtin.append, args := #[Operand.tmp 23, Operand.tmp 29], argTypes := #[25, 25] }, type := 25, pos := "pedersen.go:41", after := #[{ on := 0, ground := Ground.data }, { on := 6, ground := Ground.data }, { on := 5, ground := Ground.chain }], guard := none } : Oper)) rfl (fun K hK => ?_) AllReady.nil
      refine step_push rfl (.tmp 23) (.tmp 29) rfl (E := encU) (y := commitI p (y1, y2)) el_u64 HA3.out rfl rfl ⟨rfl, HCU.out⟩ HLB.out HSZ.out HNX.out ?_
      intro v4 w4 hacc4 hg4 _
      obtain ⟨A4, c4, e4, _, _⟩ := hacc4.sl.form
      generalize (List.map (fun y : UU => commitI p y.1) pre' ++ [commitI p (y1, y2)]).length = n4 at e4
      subst e4
      have HA4 := Lib.hid hacc4
      have HG4 := Lib.hid hg4
      have hB4 := HB3.out.kept HG4.out HNE.out
      have cB4 := hB4.cell
      have fB4 := hB4.frozen
      have HB4 := Lib.hid hB4
      clear hacc4 hg4 hB4
      refine hK _ _ ?_
      clear hK K
      try simp only [Act.put, List.setIfInBounds_toArray, List.set_cons_zero, List.set_cons_succ]
      refine wpAny_ready (rs := [8]) (by kernel_rfl) (by simp) ?_
      refine AllReady.cons (o := ({ dst := none, op := Op.store 25 (Operand.tmp 10) (Operand.tmp 30), type := 0, pos := "pedersen.go:41", after := #[{ on := 7, ground := Ground.data }, { on := 7, ground := Ground.chain }, { on := 0, ground := Ground.phase }, { on := 1, ground := Ground.phase }, { on := 2, ground := Ground.phase }, { on := 3, ground := Ground.phase }, { on := 4, ground := Ground.phase }, { on := 5, ground := Ground.phase }, { on := 6, ground := Ground.phase }, { on := 7, ground := Ground.phase }], guard := none } : Oper)) rfl (fun K hK => ?_) AllReady.nil
      go_simp
      refine hK _ _ ?_
      clear hK K
      try simp only [Act.put, List.setIfInBounds_toArray, List.set_cons_zero, List.set_cons_succ]
      refine wpAny_done (by kernel_rfl) ?_ _
      exact ⟨rfl, FIN w3 w4 A4 n4 c4 HG3.out HG4.out HA3.out HA4.out HB4.out⟩
    case done2 =>
      rintro ys' W' hys ⟨⟨u, hbu, hau⟩, hBW, hKF, hbc, hbd⟩
      rw [map_val_commit p hys] at hau
      obtain ⟨A3, c3, e3, _, _⟩ := hau.sl.form
      rw [List.length_map] at e3
      subst e3
      obtain ⟨A5, c5, e5, _, _⟩ := hao.sl.form
      rw [List.length_map] at e5
      subst e5
      have hG := grown_of_below hBW
      have HG := Lib.hid hG
      have hbo' := hbo.kept hG (by simp)
      have HAO := Lib.hid (hao.kept hG)
      have HBO := Lib.hid hbo'
      have HLT := Lib.hid hao.lt
      have cO := hbo'.cell
      have cU := hbu.cell
      have hMN : w.heap.size + 4 ≤ W.heap.size := by have := hbb.lt; omega
      have HU : Hid (Sl encU (fun g => w.heap.size + 4 ≤ g ∧ some g ≠ (Value.slice A5 pre.length c5).ownBlock) W' (.slice A3 (zipU l1 l2).length c3) (comI p (l1, l2))) := Lib.hid (hau.sl.more (fun g _ hg => ⟨by omega, fun e => by have := (HLT.out g e.symm).2; omega⟩))
      have HLB : Hid (((pre.map fun x : SS encU X w small1 => comI p x.lists).length + 1) * 24 ≤ 140737488355328) := Lib.hid (by rw [List.length_map]; have := HPL.out; omega)
      have HSZ : Hid (w.heap.size + 4 ≤ W'.heap.size) := Lib.hid (by have := hG.size; omega)
      have HNX : Hid (∀ g, W'.heap.size ≤ g → w.heap.size + 4 ≤ g) := Lib.hid (fun g hg => Nat.le_trans HSZ.out hg)
      have HKF := Lib.hid hKF
      have HBW := Lib.hid hBW
      have HNE : Hid (some (w.heap.size + 1) ≠ (Value.slice A5 pre.length c5).ownBlock) := Lib.hid (fun e => by have := (HAO.out.lt _ e.symm).1; omega)
      clear hau hao hbo' hBW hKF hbc hbd
      gi_wp2_with (gi_at_builtin; refine wpListIn_push rfl (.tmp 31) (.tmp 33) rfl (E := encS encU) (y := comI p (l1, l2)) el_nums HAO.out rfl rfl ⟨_, rfl, HU.out⟩ HLB.out HSZ.out HNX.out ?_)
      intro v4 w4 hacc4 hg4 _
      obtain ⟨A4, c4, e4, _, _⟩ := hacc4.sl.form
      generalize (List.map (fun x : SS encU X w small1 => comI p x.lists) pre ++ [comI p (l1, l2)]).length = n4 at e4
      subst e4
      have HA4 := Lib.hid hacc4
      have HG4 := Lib.hid hg4
      have hB4 := HBO.out.kept HG4.out HNE.out
      have cB4 := hB4.cell
      have fB4 := hB4.frozen
      have HB4 := Lib.hid hB4
      clear hacc4 hg4 hB4
      gi_wp2
      have hN2 : ∀ k, k < w.heap.size + 4 → some k ≠ (Value.slice A5 pre.length c5).ownBlock := fun k hk e => by have := (HAO.out.lt k e.symm).1; omega
      have hN3 : ∀ k, (Value.slice A5 pre.length c5).ownBlock = some k → w.heap.size + 4 ≤ k := fun k e => (HAO.out.lt k e).1
      have hK5 : KeepsFrom W0.heap.size W (w4.setCell ⟨w.heap.size + 1, 0, none⟩ (.slice A4 n4 c4)) := HKF.out.trans ((HAO.out.keeps HG4.out).trans (KeepsOthers.setCell _ _ _) |>.from _)
      have b1 := ((hba.kept HG.out (by simp)).kept HG4.out (hN2 _ (by omega))).other (B' := w.heap.size + 1) (by omega) (.slice A4 n4 c4)
      have b2 := ((hbb.kept HG.out (by simp)).kept HG4.out (hN2 _ (by omega))).other (B' := w.heap.size + 1) (by omega) (.slice A4 n4 c4)
      have hS3 : W.heap.size ≤ W'.heap.size := HG.out.size
      refine ⟨hK5, ⟨(((Below.refl _ W).grown HG.out (by omega) (by simp)).grown HG4.out (by omega) (fun k e => by have := hN3 k e; omega)).setCell (p := ⟨w.heap.size + 1, 0, none⟩) (by simp) _, Eq.trans b1 (Eq.symm hba), Eq.trans b2 (Eq.symm hbb)⟩, ⟨_, HB4.out.set _, ?_⟩, ?_, ((hbl.grown HG.out (by omega) (by simp)).grown HG4.out (by omega) (fun k e => by have := hN3 k e; omega)).setCell (p := ⟨w.heap.size + 1, 0, none⟩) (by simp) _, b1, b2⟩
      · rw [List.map_append]
        exact HA4.out.keep (grownBy_setCell' w4 (w.heap.size + 1) _) (fun g hg e => by injection e with e; omega)
      · exact ((hbp.grown HG.out (by simp)).grown HG4.out (hN2 _ (by omega))).grown (grownBy_setCell' w4 (w.heap.size + 1) _) (fun e => by injection e with e; omega)
    case stop2 =>
      rintro c pre' W' _ h
      exact h.elim
  case done =>
    rintro D zs W hD hzs ⟨⟨v, hbo, hao⟩, hbp, hbl, hba, hbb⟩ hK
    have cO := hbo.cell
    rw [map_lists_com p hzs] at hao
    obtain ⟨A3, c3, e3, _, _⟩ := hao.sl.form
    rw [List.length_map] at e3
    subst e3
    gi_wp2
    refine ⟨by simp, .inl ⟨_, _, rfl, run_takeDeferred hK, ?_⟩⟩
    refine ⟨_, results_tmp rfl _ _ _, .slice A3 (zipS f r).length c3, rfl, ?_, ?_⟩
    · exact (hao.sl.keepc (grownBy_putObj' W D _) (fun r e => ⟨.deferred (some []), by cases e; exact hK, rfl⟩)).more (Y := fun g => w.heap.size ≤ g) (fun g _ h => Nat.le_trans (Nat.le_add_right _ 4) h)
    · exact grown_of_below (hbl.trans (belowK_b (w := w) (Nat.le_refl _) W D _ _ (by omega) hK rfl rfl))
  case stop =>
    rintro D c pre W _ _ h _
    exact h.elim
end Go.Proofs.YtphbcfpiklmmeaaGreatDoor

namespace Go.Proofs.YtphbcfpiklmmeaaGreatDoor
open Go Go.RowKit Go.Shelf

attribute [local go_sem] Oper.semAt_some
def matI (p : Par) (f r : List (List (List Int))) : List (List (List Int)) := (zipS f r).map fun x => comsI p x.1 x.2
abbrev small2 (m : List (List Int)) : Prop := m.length ≤ 100000 ∧ ∀ c ∈ m, c.length ≤ 100000
theorem map_lists_mat (p : Par) {X : Nat → Prop} {w₀ : World} {G : List (List Int) → Prop} {ys : List (SS (encS encU) X w₀ G)} {z : List (List (List Int) × List (List Int))} (h : ys.map SS.lists = z) : ys.map (fun y => comsI p y.lists.1 y.lists.2) = z.map (fun x => comsI p x.1 x.2) := by
  rw [← h, List.map_map]
  rfl
set_option maxRecDepth 100000 in
set_option maxHeartbeats 4000000 in
theorem matrix_in (n : Nat) (hn : 6 ≤ n) (p : Par) (vf vr : Value) (f r : List (List (List Int))) (X : Nat → Prop) (w : World) (hp : p.ok) (hf : Sl (encS (encS encU)) X w vf f) (hr : Sl (encS (encS encU)) X w vr r) (hb1 : f.length ≤ 100000) (hb2 : r.length ≤ 100000) (hb3 : ∀ c ∈ f, small2 c) (hb4 : ∀ c ∈ r, small2 c) :
    CallsIn Fence.wide n Tryz.prog 40 #[p.v, vf, vr] w (Gives (encS (encS encU)) (fun g => w.heap.size ≤ g) w (matI p f r)) := by
  have h1 : 1 ≤ n := by omega
  have HF := Lib.hid hf
  have HR := Lib.hid hr
  have HP := Lib.hid hp
  obtain ⟨A1, c1, rfl, _, _⟩ := hf.form
  obtain ⟨A2, c2, rfl, _, _⟩ := hr.form
  clear hf hr hp
  have HZL : Hid ((zipS f r).length ≤ 100000) := Lib.hid (by simp [zipS]; omega)
  refine callsIn_of_wp_marks Tryz.func40 rfl trivial ?_ rfl
  simp only [Tryz.ntmps40, List.size_toArray, List.length_cons, List.length_nil, Nat.reduceAdd, Nat.reduceSub, Array.replicate_succ, Array.replicate_zero, List.push_toArray, List.append_toArray, List.nil_append, List.cons_append]
  gi_wp2_with (refine ⟨trivial, ?_⟩; refine (callsIn_wide.2 (pairsM_any _ _ _ _ _ _ _)).mono ?_; rintro e w' ⟨rfl, rfl⟩)
  have hs1 : (w.alloc (.cells p.cells 24)).heap.size = w.heap.size + 1 := by simp
  have hs2 : ((w.alloc (.cells p.cells 24)).alloc (.cells #[.slice none 0 0] 42)).heap.size = w.heap.size + 1 + 1 := by simp
  have hs3 : (((w.alloc (.cells p.cells 24)).alloc (.cells #[.slice none 0 0] 42)).alloc (.cells #[.slice A1 f.length c1] 42)).heap.size = w.heap.size + 1 + 1 + 1 := by simp
  have bP : Bk _ w.heap.size 24 p.cells := (((Bk.new w 24 p.cells).alloc (.cells #[.slice none 0 0] 42)).alloc (.cells #[.slice A1 f.length c1] 42)).alloc (.cells #[.slice A2 r.length c2] 42)
  have bO := ((Boxed.new (w.alloc (.cells p.cells 24)) 42 (.slice none 0 0)).alloc (.cells #[.slice A1 f.length c1] 42)).alloc (.cells #[.slice A2 r.length c2] 42)
  have bA := (Boxed.new ((w.alloc (.cells p.cells 24)).alloc (.cells #[.slice none 0 0] 42)) 42 (.slice A1 f.length c1)).alloc (.cells #[.slice A2 r.length c2] 42)
  have bB := Boxed.new (((w.alloc (.cells p.cells 24)).alloc (.cells #[.slice none 0 0] 42)).alloc (.cells #[.slice A1 f.length c1] 42)) 42 (.slice A2 r.length c2)
  rw [hs1] at bO
  rw [hs2] at bA
  rw [hs3] at bB
  have hB0 : Below w.heap.size w ((((w.alloc (.cells p.cells 24)).alloc (.cells #[.slice none 0 0] 42)).alloc (.cells #[.slice A1 f.length c1] 42)).alloc (.cells #[.slice A2 r.length c2] 42)) := below_grown (((World.grownBy_alloc w _ none).trans (World.grownBy_alloc _ _ none)).trans ((World.grownBy_alloc _ _ none).trans (World.grownBy_alloc _ _ none)))
  have hsz : ((((w.alloc (.cells p.cells 24)).alloc (.cells #[.slice none 0 0] 42)).alloc (.cells #[.slice A1 f.length c1] 42)).alloc (.cells #[.slice A2 r.length c2] 42)).heap.size = w.heap.size + 4 := by simp
  obtain ⟨W0, hW0⟩ : ∃ W0, (((w.alloc (.cells p.cells 24)).alloc (.cells #[.slice none 0 0] 42)).alloc (.cells #[.slice A1 f.length c1] 42)).alloc (.cells #[.slice A2 r.length c2] 42) = W0 := ⟨_, rfl⟩
  rw [hW0] at bP bO bA bB hB0 hsz ⊢
  clear hW0 hs1 hs2 hs3
  have HPG : Hid (∀ c ∈ f, small2 c) := Lib.hid hb3
  refine wpIn_rangeFunc_ownH rfl h1 (gf := 132) (lb := #[.pointer (some ⟨w.heap.size + 1 + 1, 0, none⟩), .pointer (some ⟨w.heap.size + 1 + 1 + 1, 0, none⟩)]) rfl trivial (enters_of Tryz.func132 (by kernel_rfl) rfl)
    (pairsM_stops (n - 1) (by omega) (w.heap.size + 1 + 1) (w.heap.size + 1 + 1 + 1) _ _ f r X w W0 small2 ⟨by simp, by simp⟩ hb3 hb4 hB0 bA bB HF.out HR.out) KpAB.trans (KpAB.b (by omega) (by omega) (by omega)) (Below.refl _ _) (fun _ => rfl)
    (fun pre W => (∃ v, Boxed W (w.heap.size + 1) 42 v ∧ Acc (encS (encS encU)) (w.heap.size + 4) 32 (fun g => w.heap.size + 4 ≤ g) W v (pre.map fun x => comsI p x.lists.1 x.lists.2)) ∧ Bk W w.heap.size 24 p.cells ∧ Below w.heap.size w W ∧ Boxed W (w.heap.size + 1 + 1) 42 (.slice A1 f.length c1) ∧ Boxed W (w.heap.size + 1 + 1 + 1) 42 (.slice A2 r.length c2))
    (fun _ _ _ => False)
    (fun pre X Y row hs hg hrow => by
      obtain ⟨⟨v, hb, ha⟩, hk, hB, hb2, hb3⟩ := hs
      have hr' := fun r e => (hrow r e).2
      exact ⟨⟨v, hb.kept hg (boxNe hb hr'), ha.keepc hg hr'⟩, hk.grown hg (cell_ne (hk.cell 0) hr'), hB.grown hg hB.size (fun k e => by have := (hrow k e).1; omega), hb2.kept hg (boxNe hb2 hr'), hb3.kept hg (boxNe hb3 hr')⟩)
    (fun _ _ _ _ _ hs _ _ => hs)
    ⟨⟨_, bO, Acc.nil _ _ _ _ _⟩, bP, hB0, bA, bB⟩
    (fun x a' _ => a' = { tmps := #[p.v, .slice A1 f.length c1, .slice A2 r.length c2, .pointer (some ⟨w.heap.size, 0, none⟩), undef, undef, .slice none 0 0, .pointer (some ⟨w.heap.size + 1, 0, none⟩), x.1.1.1, x.1.2.1, .slice A1 f.length c1, .slice A2 r.length c2, .func (.func 132) #[] #[.pointer (some ⟨w.heap.size + 1 + 1, 0, none⟩), .pointer (some ⟨w.heap.size + 1 + 1 + 1, 0, none⟩)], x.1.1.1, x.1.2.1, undef, undef, undef, undef, undef, undef, undef, undef], defers := [] })
    (fun _ _ _ _ _ _ hs _ _ => hs)
    ?assign ?body ?done ?stop
  case assign =>
    rintro l pre x W K hi hK
    gi_wp2
    exact hK _ _ (KeepsFrom.refl _ _) (KpAB.refl _ _ _ _) hi rfl
  case body =>
    rintro lq pre ⟨⟨⟨v1, l1⟩, ⟨v2, l2⟩⟩, ⟨hv1, hg1⟩, ⟨hv2, hg2⟩⟩ a' W hl _ ⟨⟨v, hbo, hao⟩, hbp, hbl, hba, hbb⟩ rfl hlt
    have k1 : Sl (encS encU) X w v1 l1 := hv1
    have k2 : Sl (encS encU) X w v2 l2 := hv2
    have k3 : l1.length ≤ 100000 ∧ ∀ c ∈ l1, c.length ≤ 100000 := hg1
    have k4 : l2.length ≤ 100000 ∧ ∀ c ∈ l2, c.length ≤ 100000 := hg2
    have hNW := hbl.size
    have HCOM : Hid (∀ w', W.grownBy w' none → Calls Tryz.prog 33 #[p.v, v1, v2] w' (Gives (encS encU) (fun g => w'.heap.size ≤ g) w' (comsI p l1 l2))) := Lib.hid (fun w' hw => callsIn_wide.1 (coms_in 6 (Nat.le_refl _) p v1 v2 l1 l2 X w' HP.out (k1.kept ((grown_of_below hbl).trans hw)) (k2.kept ((grown_of_below hbl).trans hw)) k3.1 k4.1 k3.2 k4.2))
    obtain ⟨D1, d1, rfl, _, _⟩ := k1.form
    obtain ⟨D2, d2, rfl, _, _⟩ := k2.form
    have HPL : Hid (pre.length < 100000) := Lib.hid (Nat.lt_of_lt_of_le hlt HZL.out)
    obtain ⟨A5, c5, e5, _, _⟩ := hao.sl.form
    rw [List.length_map] at e5
    subst e5
    have HAO := Lib.hid hao
    have HDR : Hid (W.grownBy W.drew none) := Lib.hid (grown_drewN' W 1)
    have HBO := Lib.hid hbo
    have hltO : w.heap.size + 1 < W.heap.size := hbo.lt
    have HS0 : Hid (w.heap.size + 4 ≤ W.heap.size) := Lib.hid (by have := hbb.lt; omega)
    have hpr := hbp.prule
    have cO := hbo.cell
    have HLB : Hid (((pre.map fun x : SS (encS encU) X w small2 => comsI p x.lists.1 x.lists.2).length + 1) * 24 ≤ 140737488355328) := Lib.hid (by rw [List.length_map]; have := HPL.out; omega)
    have FIN : ∀ (w3 w4 : World) (A4 : Option Addr) (n4 c4 : Nat), W.grownBy w3 none → w3.grownBy w4 (Value.slice A5 pre.length c5).ownBlock → Acc (encS (encS encU)) (w.heap.size + 4) 32 (fun g => w.heap.size + 4 ≤ g) w3 (.slice A5 pre.length c5) (pre.map fun x : SS (encS encU) X w small2 => comsI p x.lists.1 x.lists.2) → Acc (encS (encS encU)) (w.heap.size + 4) 32 (fun g => w.heap.size + 4 ≤ g) w4 (.slice A4 n4 c4) ((pre.map fun x : SS (encS encU) X w small2 => comsI p x.lists.1 x.lists.2) ++ [comsI p l1 l2]) → Boxed w4 (w.heap.size + 1) 42 (.slice A5 pre.length c5) → (fun w5 : World => KeepsFrom W0.heap.size W w5 ∧ KpAB w.heap.size (w.heap.size + 1 + 1) (w.heap.size + 1 + 1 + 1) W w5 ∧ (∃ u, Boxed w5 (w.heap.size + 1) 42 u ∧ Acc (encS (encS encU)) (w.heap.size + 4) 32 (fun g => w.heap.size + 4 ≤ g) w5 u ((pre ++ [(⟨((.slice D1 l1.length d1, l1), (.slice D2 l2.length d2, l2)), ⟨hv1, hg1⟩, ⟨hv2, hg2⟩⟩ : SS (encS encU) X w small2)]).map fun x => comsI p x.lists.1 x.lists.2)) ∧ Bk w5 w.heap.size 24 p.cells ∧ Below w.heap.size w w5 ∧ Boxed w5 (w.heap.size + 1 + 1) 42 (.slice A1 f.length c1) ∧ Boxed w5 (w.heap.size + 1 + 1 + 1) 42 (.slice A2 r.length c2)) (w4.setCell ⟨w.heap.size + 1, 0, none⟩ (.slice A4 n4 c4)) := by
      intro w3 w4 A4 n4 c4 hG3 hG4 hA3 hA4 hB4
      have hN2 : ∀ k, k < w.heap.size + 4 → some k ≠ (Value.slice A5 pre.length c5).ownBlock := fun k hk e => by have := (hA3.lt k e.symm).1; omega
      have hN3 : ∀ k, (Value.slice A5 pre.length c5).ownBlock = some k → w.heap.size + 4 ≤ k := fun k e => (hA3.lt k e).1
      have hK5 : KeepsOthers W (w4.setCell ⟨w.heap.size + 1, 0, none⟩ (.slice A4 n4 c4)) := ((keeps_none hG3).trans (hA3.keeps hG4)).trans (KeepsOthers.setCell _ _ _)
      have b1 := ((hba.kept hG3 (by simp)).kept hG4 (hN2 _ (by omega))).other (B' := w.heap.size + 1) (by omega) (.slice A4 n4 c4)
      have b2 := ((hbb.kept hG3 (by simp)).kept hG4 (hN2 _ (by omega))).other (B' := w.heap.size + 1) (by omega) (.slice A4 n4 c4)
      have hS3 : W.heap.size ≤ w3.heap.size := hG3.size
      refine ⟨hK5.from _, ⟨(((Below.refl _ W).grown hG3 (by omega) (by simp)).grown hG4 (by omega) (fun k e => by have := hN3 k e; omega)).setCell (p := ⟨w.heap.size + 1, 0, none⟩) (by simp) _, Eq.trans b1 (Eq.symm hba), Eq.trans b2 (Eq.symm hbb)⟩, ⟨_, hB4.set _, ?_⟩, ?_, ((hbl.grown hG3 (by omega) (by simp)).grown hG4 (by omega) (fun k e => by have := hN3 k e; omega)).setCell (p := ⟨w.heap.size + 1, 0, none⟩) (by simp) _, b1, b2⟩
      · rw [List.map_append]
        exact hA4.keep (grownBy_setCell' w4 (w.heap.size + 1) _) (fun g hg e => by injection e with e; omega)
      · exact ((hbp.grown hG3 (by simp)).grown hG4 (hN2 _ (by omega))).grown (grownBy_setCell' w4 (w.heap.size + 1) _) (fun e => by injection e with e; omega)
    clear k1 k2 k3 k4 hlt
    dsimp only
    gi_wp2
    refine wpIn_round_any (l0 := lq) (R := fun _ w5 => KeepsFrom W0.heap.size W w5 ∧ KpAB w.heap.size (w.heap.size + 1 + 1) (w.heap.size + 1 + 1 + 1) W w5 ∧ (∃ u, Boxed w5 (w.heap.size + 1) 42 u ∧ Acc (encS (encS encU)) (w.heap.size + 4) 32 (fun g => w.heap.size + 4 ≤ g) w5 u ((pre ++ [(⟨((.slice D1 l1.length d1, l1), (.slice D2 l2.length d2, l2)), ⟨hv1, hg1⟩, ⟨hv2, hg2⟩⟩ : SS (encS encU) X w small2)]).map fun x => comsI p x.lists.1 x.lists.2)) ∧ Bk w5 w.heap.size 24 p.cells ∧ Below w.heap.size w w5 ∧ Boxed w5 (w.heap.size + 1 + 1) 42 (.slice A1 f.length c1) ∧ Boxed w5 (w.heap.size + 1 + 1 + 1) 42 (.slice A2 r.length c2)) (by kernel_rfl) (by kernel_rfl) (fun a w h => h) ?_
    refine wpAny_take (i := 2) (oi := ({ dst := some 17, op := Op.move (Operand.tmp 8), type := 32, pos := "pedersen.go:80", after := #[], guard := none } : Oper)) (v := ?vq1) rfl (by kernel_rfl) (by kernel_rfl) (by kernel_rfl) (fun _ _ _ h => h) (Or.inl ⟨by rfl, ?hq1⟩) ?rq1
    case hq1 => (intro w; go_simp; first | done | with_reducible rfl)
    try simp only [Act.put, List.setIfInBounds_toArray, List.set_cons_zero, List.set_cons_succ]
    refine wpAny_take (i := 3) (oi := ({ dst := some 18, op := Op.move (Operand.tmp 9), type := 32, pos := "pedersen.go:80", after := #[], guard := none } : Oper)) (v := ?vq2) rfl (by kernel_rfl) (by kernel_rfl) (by kernel_rfl) (fun _ _ _ h => h) (Or.inl ⟨by rfl, ?hq2⟩) ?rq2
    case hq2 => (intro w; go_simp; first | done | with_reducible rfl)
    try simp only [Act.put, List.setIfInBounds_toArray, List.set_cons_zero, List.set_cons_succ]
    refine wpAny_ready (rs := [0, 1]) (by kernel_rfl) (by simp) ?_
    refine AllReady.cons (o := ({ dst := some 15, op := Op.load 42 (Operand.tmp 7), type := 42, pos := "pedersen.go:80", after := #[], guard := none } : Oper)) rfl (fun K hK => ?_) ?_
    · skip
      go_simp
      refine hK _ _ ?_
      clear hK K
      try simp only [Act.put, List.setIfInBounds_toArray, List.set_cons_zero, List.set_cons_succ]
      refine wpAny_ready (rs := [1]) (by kernel_rfl) (by simp) ?_
      refine AllReady.cons (o := ({ dst := some 16, op := Op.load 24 (Operand.tmp 3), type := 24, pos := "pedersen.go:80", after := #[], guard := none } : Oper)) rfl (fun K hK => ?_) AllReady.nil
      go_simp
      refine hK _ _ ?_
      clear hK K
      try simp only [Act.put, List.setIfInBounds_toArray, List.set_cons_zero, List.set_cons_succ]
      refine wpAny_ready (rs := [4]) (by kernel_rfl) (by simp) ?_
      refine AllReady.cons (o := ({ dst := some 19, op := Op.call { callee := Callee.value (Operand.func 33), args := #[Operand.tmp 16, Operand.tmp 17, Operand.tmp 18], argTypes := #[24, 32, 32] }, type := 32, pos := "pedersen.go:80", after := #[{ on := 1, ground := Ground.data }, { on := 2, ground := Ground.data }, { on := 3, ground := Ground.data }], guard := none } : Oper)) rfl (fun K hK => ?_) AllReady.nil
      go_simp
      (go_at_call 33; (with_reducible refine (HCOM.out _ HDR.out).mono ?_); rintro e w3 ⟨v3, rfl, hs3, hg3⟩)
      obtain ⟨A6, c6, e6, _, _⟩ := hs3.form
      generalize (comsI p l1 l2).length = n6 at e6
      subst e6
      have HG3 : Hid (W.grownBy w3 none) := Lib.hid ((grown_drewN' W 1).trans hg3)
      have HA3 := Lib.hid (HAO.out.kept HG3.out)
      have HB3 := Lib.hid (HBO.out.kept HG3.out (by simp))
      have HSZ : Hid (w.heap.size + 4 ≤ w3.heap.size) := Lib.hid (Nat.le_trans HS0.out HG3.out.size)
      have HNX : Hid (∀ g, w3.heap.size ≤ g → w.heap.size + 4 ≤ g) := Lib.hid (fun g hg => Nat.le_trans HSZ.out hg)
      have HNE : Hid (some (w.heap.size + 1) ≠ (Value.slice A5 pre.length c5).ownBlock) := Lib.hid (fun e => by have := (HA3.out.lt _ e.symm).1; omega)
      have HU : Hid (Sl (encS encU) (fun g => w.heap.size + 4 ≤ g ∧ some g ≠ (Value.slice A5 pre.length c5).ownBlock) w3 (.slice A6 n6 c6) (comsI p l1 l2)) := Lib.hid (hs3.more (fun g _ hg => ⟨Nat.le_trans HS0.out hg, fun e => by have h1 := (HAO.out.lt g e.symm).2; have h2 : W.heap.size ≤ g := hg; omega⟩))
      have hc3 := HB3.out.cell
      have hc3a := (HB3.out.alloc (.cells #[.slice A6 n6 c6] 32)).cell
      clear hg3 hs3
      dsimp only
      refine hK _ _ ?_
      clear hK K
      try simp only [Act.put, List.setIfInBounds_toArray, List.set_cons_zero, List.set_cons_succ]
      refine wpAny_ready (rs := [5]) (by kernel_rfl) (by simp) ?_
      refine AllReady.cons (o := ({ dst := some 20, op := Op.buildSlice 42 1 #[(0, Operand.tmp 19)], type := 42, pos := "pedersen.go:80", after := #[{ on := 4, ground := Ground.data }], guard := none } : Oper)) rfl (fun K hK => ?_) AllReady.nil
      go_simp
      refine hK _ _ ?_
      clear hK K
      try simp only [Act.put, List.setIfInBounds_toArray, List.set_cons_zero, List.set_cons_succ]
      refine wpAny_ready (rs := [6]) (by kernel_rfl) (by simp) ?_
      refine AllReady.cons (o := ({ dst := some 21, op := Op.call { callee := Callee.builtin Builtin.append, args := #[Operand.tmp 15, Operand.tmp 20], argTypes := #[42, 42] }, type := 42, pos := "pedersen.go:80", after := #[{ on := 0, ground := Ground.data }, { on := 5, ground := Ground.data }, { on := 4, ground := Ground.chain }], guard := none } : Oper)) rfl (fun K hK => ?_) AllReady.nil
      refine step_push rfl (.tmp 15) (.tmp 20) rfl (E := encS (encS encU)) (y := comsI p l1 l2) el_rows HA3.out rfl rfl ⟨_, rfl, HU.out⟩ HLB.out HSZ.out HNX.out ?_
      intro v4 w4 hacc4 hg4 _
      obtain ⟨A4, c4, e4, _, _⟩ := hacc4.sl.form
      generalize (List.map (fun x : SS (encS encU) X w small2 => comsI p x.lists.1 x.lists.2) pre ++ [comsI p l1 l2]).length = n4 at e4
      subst e4
      have HA4 := Lib.hid hacc4
      have HG4 := Lib.hid hg4
      have hB4 := HB3.out.kept HG4.out HNE.out
      have cB4 := hB4.cell
      have fB4 := hB4.frozen
      have HB4 := Lib.hid hB4
      clear hacc4 hg4 hB4
      refine hK _ _ ?_
      clear hK K
      try simp only [Act.put, List.setIfInBounds_toArray, List.set_cons_zero, List.set_cons_succ]
      refine wpAny_ready (rs := [7]) (by kernel_rfl) (by simp) ?_
      refine AllReady.cons (o := ({ dst := none, op := Op.store 42 (Operand.tmp 7) (Operand.tmp 21), type := 0, pos := "pedersen.go:80", after := #[{ on := 6, ground := Ground.data }, { on := 6, ground := Ground.chain }, { on := 0, ground := Ground.phase }, { on := 1, ground := Ground.phase }, { on := 2, ground := Ground.phase }, { on := 3, ground := Ground.phase }, { on := 4, ground := Ground.phase }, { on := 5, ground := Ground.phase }, { on := 6, ground := Ground.phase }], guard := none } : Oper)) rfl (fun K hK => ?_) AllReady.nil
      go_simp
      refine hK _ _ ?_
      clear hK K
      try simp only [Act.put, List.setIfInBounds_toArray, List.set_cons_zero, List.set_cons_succ]
      refine wpAny_done (by kernel_rfl) ?_ _
      exact ⟨rfl, FIN w3 w4 A4 n4 c4 HG3.out HG4.out HA3.out HA4.out HB4.out⟩
    refine AllReady.cons (o := ({ dst := some 16, op := Op.load 24 (Operand.tmp 3), type := 24, pos := "pedersen.go:80", after := #[], guard := none } : Oper)) rfl (fun K hK => ?_) AllReady.nil
    go_simp
    refine hK _ _ ?_
    clear hK K
    try simp only [Act.put, List.setIfInBounds_toArray, List.set_cons_zero, List.set_cons_succ]
    refine wpAny_ready (rs := [0, 4]) (by kernel_rfl) (by simp) ?_
    refine AllReady.cons (o := ({ dst := some 15, op := Op.load 42 (Operand.tmp 7), type := 42, pos := "pedersen.go:80", after := #[], guard := none } : Oper)) rfl (fun K hK => ?_) ?_
    · skip
      go_simp
      refine hK _ _ ?_
      clear hK K
      try simp only [Act.put, List.setIfInBounds_toArray, List.set_cons_zero, List.set_cons_succ]
      refine wpAny_ready (rs := [4]) (by kernel_rfl) (by simp) ?_
      refine AllReady.cons (o := ({ dst := some 19, op := Op.call { callee := Callee.value (Operand.func 33), args := #[Operand.tmp 16, Operand.tmp 17, Operand.tmp 18], argTypes := #[24, 32, 32] }, type := 32, pos := "pedersen.go:80", after := #[{ on := 1, ground := Ground.data }, { on := 2, ground := Ground.data }, { on := 3, ground := Ground.data }], guard := none } : Oper)) rfl (fun K hK => ?_) AllReady.nil
      go_simp
      (go_at_call 33; (with_reducible refine (HCOM.out _ HDR.out).mono ?_); rintro e w3 ⟨v3, rfl, hs3, hg3⟩)
      obtain ⟨A6, c6, e6, _, _⟩ := hs3.form
      generalize (comsI p l1 l2).length = n6 at e6
      subst e6
      have HG3 : Hid (W.grownBy w3 none) := Lib.hid ((grown_drewN' W 1).trans hg3)
      have HA3 := Lib.hid (HAO.out.kept HG3.out)
      have HB3 := Lib.hid (HBO.out.kept HG3.out (by simp))
      have HSZ : Hid (w.heap.size + 4 ≤ w3.heap.size) := Lib.hid (Nat.le_trans HS0.out HG3.out.size)
      have HNX : Hid (∀ g, w3.heap.size ≤ g → w.heap.size + 4 ≤ g) := Lib.hid (fun g hg => Nat.le_trans HSZ.out hg)
      have HNE : Hid (some (w.heap.size + 1) ≠ (Value.slice A5 pre.length c5).ownBlock) := Lib.hid (fun e => by have := (HA3.out.lt _ e.symm).1; omega)
      have HU : Hid (Sl (encS encU) (fun g => w.heap.size + 4 ≤ g ∧ some g ≠ (Value.slice A5 pre.length c5).ownBlock) w3 (.slice A6 n6 c6) (comsI p l1 l2)) := Lib.hid (hs3.more (fun g _ hg => ⟨Nat.le_trans HS0.out hg, fun e => by have h1 := (HAO.out.lt g e.symm).2; have h2 : W.heap.size ≤ g := hg; omega⟩))
      have hc3 := HB3.out.cell
      have hc3a := (HB3.out.alloc (.cells #[.slice A6 n6 c6] 32)).cell
      clear hg3 hs3
      dsimp only
      refine hK _ _ ?_
      clear hK K
      try simp only [Act.put, List.setIfInBounds_toArray, List.set_cons_zero, List.set_cons_succ]
      refine wpAny_ready (rs := [5]) (by kernel_rfl) (by simp) ?_
      refine AllReady.cons (o := ({ dst := some 20, op := Op.buildSlice 42 1 #[(0, Operand.tmp 19)], type := 42, pos := "pedersen.go:80", after := #[{ on := 4, ground := Ground.data }], guard := none } : Oper)) rfl (fun K hK => ?_) AllReady.nil
      go_simp
      refine hK _ _ ?_
      clear hK K
      try simp only [Act.put, List.setIfInBounds_toArray, List.set_cons_zero, List.set_cons_succ]
      refine wpAny_ready (rs := [6]) (by kernel_rfl) (by simp) ?_
      refine AllReady.cons (o := ({ dst := some 21, op := Op.call { callee := Callee.builtin Builtin.append, args := #[Operand.tmp 15, Operand.tmp 20], argTypes := #[42, 42] }, type := 42, pos := "pedersen.go:80", after := #[{ on := 0, ground := Ground.data }, { on := 5, ground := Ground.data }, { on := 4, ground := Ground.chain }], guard := none } : Oper)) rfl (fun K hK => ?_) AllReady.nil
      refine step_push rfl (.tmp 15) (.tmp 20) rfl (E := encS (encS encU)) (y := comsI p l1 l2) el_rows HA3.out rfl rfl ⟨_, rfl, HU.out⟩ HLB.out HSZ.out HNX.out ?_
      intro v4 w4 hacc4 hg4 _
      obtain ⟨A4, c4, e4, _, _⟩ := hacc4.sl.form
      generalize (List.map (fun x : SS (encS encU) X w small2 => comsI p x.lists.1 x.lists.2) pre ++ [comsI p l1 l2]).length = n4 at e4
      subst e4
      have HA4 := Lib.hid hacc4
      have HG4 := Lib.hid hg4
      have hB4 := HB3.out.kept HG4.out HNE.out
      have cB4 := hB4.cell
      have fB4 := hB4.frozen
      have HB4 := Lib.hid hB4
      clear hacc4 hg4 hB4
      refine hK _ _ ?_
      clear hK K
      try simp only [Act.put, List.setIfInBounds_toArray, List.set_cons_zero, List.set_cons_succ]
      refine wpAny_ready (rs := [7]) (by kernel_rfl) (by simp) ?_
      refine AllReady.cons (o := ({ dst := none, op := Op.store 42 (Operand.tmp 7) (Operand.tmp 21), type := 0, pos := "pedersen.go:80", after := #[{ on := 6, ground := Ground.data }, { on := 6, ground := Ground.chain }, { on := 0, ground := Ground.phase }, { on := 1, ground := Ground.phase }, { on := 2, ground := Ground.phase }, { on := 3, ground := Ground.phase }, { on := 4, ground := Ground.phase }, { on := 5, ground := Ground.phase }, { on := 6, ground := Ground.phase }], guard := none } : Oper)) rfl (fun K hK => ?_) AllReady.nil
      go_simp
      refine hK _ _ ?_
      clear hK K
      try simp only [Act.put, List.setIfInBounds_toArray, List.set_cons_zero, List.set_cons_succ]
      refine wpAny_done (by kernel_rfl) ?_ _
      exact ⟨rfl, FIN w3 w4 A4 n4 c4 HG3.out HG4.out HA3.out HA4.out HB4.out⟩
    refine AllReady.cons (o := ({ dst := some 19, op := Op.call { callee := Callee.value (Operand.func 33), args := #[Operand.tmp 16, Operand.tmp 17, Operand.tmp 18], argTypes := #[24, 32, 32] }, type := 32, pos := "pedersen.go:80", after := #[{ on := 1, ground := Ground.data }, { on := 2, ground := Ground.data }, { on := 3, ground := Ground.data }], guard := none } : Oper)) rfl (fun K hK => ?_) AllReady.nil
    go_simp
    (go_at_call 33; (with_reducible refine (HCOM.out _ HDR.out).mono ?_); rintro e w3 ⟨v3, rfl, hs3, hg3⟩)
    obtain ⟨A6, c6, e6, _, _⟩ := hs3.form
    generalize (comsI p l1 l2).length = n6 at e6
    subst e6
    have HG3 : Hid (W.grownBy w3 none) := Lib.hid ((grown_drewN' W 1).trans hg3)
    have HA3 := Lib.hid (HAO.out.kept HG3.out)
    have HB3 := Lib.hid (HBO.out.kept HG3.out (by simp))
    have HSZ : Hid (w.heap.size + 4 ≤ w3.heap.size) := Lib.hid (Nat.le_trans HS0.out HG3.out.size)
    have HNX : Hid (∀ g, w3.heap.size ≤ g → w.heap.size + 4 ≤ g) := Lib.hid (fun g hg => Nat.le_trans HSZ.out hg)
    have HNE : Hid (some (w.heap.size + 1) ≠ (Value.slice A5 pre.length c5).ownBlock) := Lib.hid (fun e => by have := (HA3.out.lt _ e.symm).1; omega)
    have HU : Hid (Sl (encS encU) (fun g => w.heap.size + 4 ≤ g ∧ some g ≠ (Value.slice A5 pre.length c5).ownBlock) w3 (.slice A6 n6 c6) (comsI p l1 l2)) := Lib.hid (hs3.more (fun g _ hg => ⟨Nat.le_trans HS0.out hg, fun e => by have h1 := (HAO.out.lt g e.symm).2; have h2 : W.heap.size ≤ g := hg; omega⟩))
    have hc3 := HB3.out.cell
    have hc3a := (HB3.out.alloc (.cells #[.slice A6 n6 c6] 32)).cell
    clear hg3 hs3
    dsimp only
    refine hK _ _ ?_
    clear hK K
    try simp only [Act.put, List.setIfInBounds_toArray, List.set_cons_zero, List.set_cons_succ]
    refine wpAny_ready (rs := [0, 5]) (by kernel_rfl) (by simp) ?_
    refine AllReady.cons (o := ({ dst := some 15, op := Op.load 42 (Operand.tmp 7), type := 42, pos := "pedersen.go:80", after := #[], guard := none } : Oper)) rfl (fun K hK => ?_) ?_
    · skip
      go_simp
      refine hK _ _ ?_
      clear hK K
      try simp only [Act.put, List.setIfInBounds_toArray, List.set_cons_zero, List.set_cons_succ]
      refine wpAny_ready (rs := [5]) (by kernel_rfl) (by simp) ?_
      refine AllReady.cons (o := ({ dst := some 20, op := Op.buildSlice 42 1 #[(0, Operand.tmp 19)], type := 42, pos := "pedersen.go:80", after := #[{ on := 4, ground := Ground.data }], guard := none } : Oper)) rfl (fun K hK => ?_) AllReady.nil
      go_simp
      refine hK _ _ ?_
      clear hK K
      try simp only [Act.put, List.setIfInBounds_toArray, List.set_cons_zero, List.set_cons_succ]
      refine wpAny_ready (rs := [6]) (by kernel_rfl) (by simp) ?_
      refine AllReady.cons (o := ({ dst := some 21, op := Op.call { callee := Callee.builtin Builtin.append, args := #[Operand.tmp 15, Operand.tmp 20], argTypes := #[42, 42] }, type := 42, pos := "pedersen.go:80", after := #[{ on := 0, ground := Ground.data }, { on := 5, ground := Ground.data }, { on := 4, ground := Ground.chain }], guard := none } : Oper)) rfl (fun K hK => ?_) AllReady.nil
      refine step_push rfl (.tmp 15) (.tmp 20) rfl (E := encS (encS encU)) (y := comsI p l1 l2) el_rows HA3.out rfl rfl ⟨_, rfl, HU.out⟩ HLB.out HSZ.out HNX.out ?_
      intro v4 w4 hacc4 hg4 _
      obtain ⟨A4, c4, e4, _, _⟩ := hacc4.sl.form
      generalize (List.map (fun x : SS (encS encU) X w small2 => comsI p x.lists.1 x.lists.2) pre ++ [comsI p l1 l2]).length = n4 at e4
      subst e4
      have HA4 := Lib.hid hacc4
      have HG4 := Lib.hid hg4
      have hB4 := HB3.out.kept HG4.out HNE.out
      have cB4 := hB4.cell
      have fB4 := hB4.frozen
      have HB4 := Lib.hid hB4
      clear hacc4 hg4 hB4
      refine hK _ _ ?_
      clear hK K
      try simp only [Act.put, List.setIfInBounds_toArray, List.set_cons_zero, List.set_cons_succ]
      refine wpAny_ready (rs := [7]) (by kernel_rfl) (by simp) ?_
      refine AllReady.cons (o := ({ dst := none, op := Op.store 42 (Operand.tmp 7) (Operand.tmp 21), type := 0, pos := "pedersen.go:80", after := #[{ on := 6, ground := Ground.data }, { on := 6, ground := Ground.chain }, { on := 0, ground := Ground.phase }, { on := 1, ground := Ground.phase }, { on := 2, ground := Ground.phase }, { on := 3, ground := Ground.phase }, { on := 4, ground := Ground.phase }, { on := 5, ground := Ground.phase }, { on := 6, ground := Ground.phase }], guard := none } : Oper)) rfl (fun K hK => ?_) AllReady.nil
      go_simp
      refine hK _ _ ?_
      clear hK K
      try simp only [Act.put, List.setIfInBounds_toArray, List.set_cons_zero, List.set_cons_succ]
      refine wpAny_done (by kernel_rfl) ?_ _
      exact ⟨rfl, FIN w3 w4 A4 n4 c4 HG3.out HG4.out HA3.out HA4.out HB4.out⟩
    refine AllReady.cons (o := ({ dst := some 20, op := Op.buildSlice 42 1 #[(0, Operand.tmp 19)], type := 42, pos := "pedersen.go:80", after := #[{ on := 4, ground := Ground.data }], guard := none } : Oper)) rfl (fun K hK => ?_) AllReady.nil
    go_simp
    refine hK _ _ ?_
    clear hK K
    try simp only [Act.put, List.setIfInBounds_toArray, List.set_cons_zero, List.set_cons_succ]
    refine wpAny_ready (rs := [0]) (by kernel_rfl) (by simp) ?_
    refine AllReady.cons (o := ({ dst := some 15, op := Op.load 42 (Operand.tmp 7), type := 42, pos := "pedersen.go:80", after := #[], guard := none } : Oper)) rfl (fun K hK => ?_) AllReady.nil
    go_simp
    refine hK _ _ ?_
    clear hK K
    try simp only [Act.put, List.setIfInBounds_toArray, List.set_cons_zero, List.set_cons_succ]
    refine wpAny_ready (rs := [6]) (by kernel_rfl) (by simp) ?_
    refine AllReady.cons (o := ({ dst := some 21, op := Op.call { callee := Callee.builtin Builtin.append, args := #[Operand.tmp 15, Operand.tmp 20], argTypes := #[42, 42] }, type := 42, pos := "pedersen.go:80", after := #[{ on := 0, ground := Ground.data }, { on := 5, ground := Ground.data }, { on := 4, ground := Ground.chain }], guard := none } : Oper)) rfl (fun K hK => ?_) AllReady.nil
    refine step_push rfl (.tmp 15) (.tmp 20) rfl (E := encS (encS encU)) (y := comsI p l1 l2) el_rows HA3.out rfl rfl ⟨_, rfl, HU.out⟩ HLB.out HSZ.out HNX.out ?_
    intro v4 w4 hacc4 hg4 _
    obtain ⟨A4, c4, e4, _, _⟩ := hacc4.sl.form
    generalize (List.map (fun x : SS (encS encU) X w small2 => comsI p x.lists.1 x.lists.2) pre ++ [comsI p l1 l2]).length = n4 at e4
    subst e4
    have HA4 := Lib.hid hacc4
    have HG4 := Lib.hid hg4
    have hB4 := HB3.out.kept HG4.out HNE.out
    have cB4 := hB4.cell
    have fB4 := hB4.frozen
    have HB4 := Lib.hid hB4
    clear hacc4 hg4 hB4
    refine hK _ _ ?_
    clear hK K
    try simp only [Act.put, List.setIfInBounds_toArray, List.set_cons_zero, List.set_cons_succ]
    refine wpAny_ready (rs := [7]) (by kernel_rfl) (by simp) ?_
    refine AllReady.cons (o := ({ dst := none, op := Op.store 42 (Operand.tmp 7) (Operand.tmp 21), type := 0, pos := "pedersen.go:80", after := #[{ on := 6, ground := Ground.data }, { on := 6, ground := Ground.chain }, { on := 0, ground := Ground.phase }, { on := 1, ground := Ground.phase }, { on := 2, ground := Ground.phase }, { on := 3, ground := Ground.phase }, { on := 4, ground := Ground.phase }, { on := 5, ground := Ground.phase }, { on := 6, ground := Ground.phase }], guard := none } : Oper)) rfl (fun K hK => ?_) AllReady.nil
    go_simp
    refine hK _ _ ?_
    clear hK K
    try simp only [Act.put, List.setIfInBounds_toArray, List.set_cons_zero, List.set_cons_succ]
    refine wpAny_done (by kernel_rfl) ?_ _
    exact ⟨rfl, FIN w3 w4 A4 n4 c4 HG3.out HG4.out HA3.out HA4.out HB4.out⟩
  case done =>
    rintro D zs W hD hzs ⟨⟨v, hbo, hao⟩, hbp, hbl, hba, hbb⟩ hK
    have cO := hbo.cell
    rw [map_lists_mat p hzs] at hao
    obtain ⟨A3, c3, e3, _, _⟩ := hao.sl.form
    rw [List.length_map] at e3
    subst e3
    gi_wp2
    refine ⟨by simp, .inl ⟨_, _, rfl, run_takeDeferred hK, ?_⟩⟩
    refine ⟨_, results_tmp rfl _ _ _, .slice A3 (zipS f r).length c3, rfl, ?_, ?_⟩
    · exact (hao.sl.keepc (grownBy_putObj' W D _) (fun r e => ⟨.deferred (some []), by cases e; exact hK, rfl⟩)).more (Y := fun g => w.heap.size ≤ g) (fun g _ h => Nat.le_trans (Nat.le_add_right _ 4) h)
    · exact grown_of_below (hbl.trans (belowK_b (w := w) (Nat.le_refl _) W D _ _ (by omega) hK rfl rfl))
  case stop =>
    rintro D c pre W _ _ h _
    exact h.elim
end Go.Proofs.YtphbcfpiklmmeaaGreatDoor

namespace Go.Proofs.YtphbcfpiklmmeaaGreatDoor
open Go Go.RowKit

end Go.Proofs.YtphbcfpiklmmeaaGreatDoor

namespace Go.Proofs.YtphbcfpiklmmeaaGreatDoor
open Go Go.RowKit

def secretsI (p : Par) : Int := wrap64 (p.K * wrap64 (p.D + 1))
end Go.Proofs.YtphbcfpiklmmeaaGreatDoor

namespace Go.Proofs.YtphbcfpiklmmeaaGreatDoor
open Go

/-- What is known of a value, and stands as long as nothing that lay there is written. -/
structure Pv where
  p : Value → World → Prop
  st : ∀ {v w w'}, p v w → w.grownBy w' none → p v w'
def Pv.any : Pv := ⟨fun _ _ => True, fun _ _ => trivial⟩
def Pv.eq (u : Value) : Pv := ⟨fun v _ => v = u, fun h _ => h⟩
def Pv.sl {α : Type} (E : Enc α) (X : Nat → Prop) (xs : List α) : Pv := ⟨fun v w => Sl E X w v xs, fun h hg => h.kept hg⟩

section
variable {P : Program} {ops : Array Oper} {Q : Exit → Act → World → Prop} {n : Nat} {a0 : Act} {w0 : World}

def dstAt (ops : Array Oper) (j : Nat) : Option Tmp := (ops[j]?).bind (·.dst)
/-- Slot t is as at the start where operation i may come. -/
def keptB (ops : Array Oper) (n i : Nat) (t : Tmp) : Bool := (List.range n).all fun j => dstAt ops j != some t || Region.waitsFor .any ops j i || j == i
def pairB (ops : Array Oper) (i : Nat) (js : List (Nat × Tmp)) : Bool := js.all fun x => dstAt ops x.1 == some x.2 && Region.waitsFor .any ops i x.1
def lookB (ops : Array Oper) (n i : Nat) (js : List (Nat × Tmp)) : Bool := ((ops[i]?).map fun o => (o.looksAt ops).all fun t => js.any (·.2 == t) || keptB ops n i t).getD false
def Told (V : Pv) (dst : Option Tmp) (ds : List Deferred) (w : World) : Exit → Act → World → Prop := fun e a' w' => e = .normal ∧ a'.defers = ds ∧ V.p (match dst with | some d => a'.eval (.tmp d) | none => undef) w' ∧ w.grownBy w' none
def Ask (P : Program) (ops : Array Oper) (Vs : List Pv) (Qt : Exit → Act → World → Prop) (o : Oper) (w : World) : List (Nat × Tmp) → Act → Prop
  | [], a => wpList P ops Qt [o] a w
  | (j, d) :: js, a => ∀ x, (Vs.getD j Pv.any).p x w → Ask P ops Vs Qt o w js (a.put (some d) x)
def Mono (P : Program) (ops : Array Oper) (n : Nat) (a0 : Act) (w0 : World) (F : List Pv → Prop) : List Pv → List Oper → Prop
  | Vs, [] => F Vs
  | Vs, o :: os => ∃ (V : Pv) (js : List (Nat × Tmp)), (pairB ops Vs.length js && lookB ops n Vs.length js) = true ∧ (∀ w, w0.grownBy w none → Ask P ops Vs (Told V o.dst a0.defers w) o w js a0) ∧ Mono P ops n a0 w0 F (Vs ++ [V]) os
def Fin' (G : Act → World → Prop) (w : World) : List Pv → List Oper → Act → Prop
  | V :: Vs, o :: os, a => ∀ x, V.p x w → Fin' G w Vs os (a.put o.dst x)
  | _, _, a => G a w
/-- What may be listed ahead of operation i. -/
def av (ops : Array Oper) (i : Nat) : Nat → Nat → Bool
  | 0, k => k != i
  | f + 1, k => k != i && ((ops[k]?).map (·.after.all fun e => !Region.binds .any e || av ops i f e.on)).getD false
def tailB (ops : Array Oper) (n : Nat) : Bool :=
  (List.range ops.size).all (fun j => decide (j < n) || (List.range n).all fun i => !av ops i n j) && Region.seqB .any ops (ops.size - n) n (Array.replicate n true ++ Array.replicate (ops.size - n) false)
def topoB (ops : Array Oper) (n : Nat) : Bool := (List.range n).all fun i => ((ops[i]?).map (·.after.all fun e => !Region.binds .any e || decide (e.on < i))).getD false
def distB (ops : Array Oper) (n sz : Nat) : Bool := (List.range n).all fun i => match dstAt ops i with | none => true | some d => decide (d < sz) && (List.range n).all fun j => j == i || dstAt ops j != some d
def monoB (ops : Array Oper) (n sz : Nat) : Bool := Region.noSelect ops && decide (n ≤ ops.size) && tailB ops n && topoB ops n && distB ops n sz

theorem put_size (a : Act) (dst : Option Tmp) (v : Value) : (a.put dst v).tmps.size = a.tmps.size := by
  cases dst <;> simp [Act.put]
theorem put_defers (a : Act) (dst : Option Tmp) (v : Value) : (a.put dst v).defers = a.defers := by
  cases dst <;> rfl
theorem put_at (a : Act) (d t : Tmp) (v : Value) (h : d ≠ t) : (a.put (some d) v).tmps[t]? = a.tmps[t]? := by
  simp [Act.put, Array.getElem?_setIfInBounds_ne h]
theorem eval_of (a b : Act) (t : Tmp) (h : a.tmps[t]? = b.tmps[t]?) : a.eval (.tmp t) = b.eval (.tmp t) := by
  simp [Act.eval, Array.getD_eq_getD_getElem?, h]
theorem put_own (a b : Act) (t : Tmp) (hs : a.tmps.size = b.tmps.size) : (a.put (some t) (b.eval (.tmp t))).tmps[t]? = b.tmps[t]? := by
  by_cases h : t < a.tmps.size
  · have h' : t < b.tmps.size := hs ▸ h
    simp [Act.put, Act.eval, Array.getD_eq_getD_getElem?, h, h']
  · have h' : ¬ t < b.tmps.size := hs ▸ h
    simp [Act.put, h, h']
/-- The values of b put onto a. -/
def onto (b : Act) (ds : List (Option Tmp)) (a : Act) : Act := ds.foldl (fun a d => a.put d (match d with | some d => b.eval (.tmp d) | none => undef)) a
theorem onto_size (b : Act) : ∀ (ds : List (Option Tmp)) (a : Act), (onto b ds a).tmps.size = a.tmps.size
  | [], _ => rfl
  | _ :: ds, _ => (onto_size b ds _).trans (put_size _ _ _)
theorem onto_defers (b : Act) : ∀ (ds : List (Option Tmp)) (a : Act), (onto b ds a).defers = a.defers
  | [], _ => rfl
  | _ :: ds, _ => (onto_defers b ds _).trans (put_defers _ _ _)
theorem onto_at (b : Act) (t : Tmp) : ∀ (ds : List (Option Tmp)) (a : Act), a.tmps.size = b.tmps.size → (some t ∈ ds ∨ a.tmps[t]? = b.tmps[t]?) → (onto b ds a).tmps[t]? = b.tmps[t]?
  | [], a, _, h => h.resolve_left (by simp)
  | d :: ds, a, hs, h => by
    refine onto_at b t ds _ ((put_size _ _ _).trans hs) ?_
    cases d with
    | none => exact h.imp (fun h => by simpa using h) id
    | some d =>
      by_cases e : d = t
      · subst e; exact .inr (put_own a b d hs)
      · refine h.imp (fun h => ?_) (fun h => (put_at a d t _ e).trans h)
        rcases List.mem_cons.1 h with h | h
        · injection h with h; exact absurd h.symm e
        · exact h
theorem act_ext {a b : Act} (h : ∀ t : Nat, a.tmps[t]? = b.tmps[t]?) (hd : a.defers = b.defers) : a = b := by
  obtain ⟨t1, d1⟩ := a
  obtain ⟨t2, d2⟩ := b
  obtain rfl : d1 = d2 := hd
  obtain rfl : t1 = t2 := Array.ext_getElem? h
  rfl

theorem Ask.all {Vs : List Pv} {Qt : Exit → Act → World → Prop} {o : Oper} {w : World} {b : Act} : ∀ {js : List (Nat × Tmp)} {a : Act}, (∀ x : Nat × Tmp, x ∈ js → (Vs.getD x.1 Pv.any).p (b.eval (.tmp x.2)) w) → Ask P ops Vs Qt o w js a → wpList P ops Qt [o] (onto b (js.map fun x => some x.2) a) w
  | [], _, _, h => h
  | (j, d) :: js, a, hx, h => Ask.all (js := js) (fun x hm => hx x (List.mem_cons_of_mem _ hm)) (h _ (hx (j, d) (by simp)))
theorem Fin'.all {G : Act → World → Prop} {w : World} {b : Act} : ∀ {Vs : List Pv} {os : List Oper} {a : Act}, Vs.length = os.length → (∀ (k : Nat) (V : Pv) (o : Oper), Vs[k]? = some V → os[k]? = some o → V.p (match o.dst with | some d => b.eval (.tmp d) | none => undef) w) → Fin' G w Vs os a → G (onto b (os.map (·.dst)) a) w
  | [], [], _, _, _, h => h
  | V :: Vs, o :: os, a, hl, hx, h => Fin'.all (Vs := Vs) (os := os) (by simpa using hl) (fun k V o hv ho => hx (k + 1) V o (by simpa using hv) (by simpa using ho)) (h _ (hx 0 V o rfl rfl))
  | [], _ :: _, _, hl, _, _ => by simp at hl
  | _ :: _, [], _, hl, _, _ => by simp at hl
theorem Mono.out {F : List Pv → Prop} : ∀ {os : List Oper} {Vs : List Pv}, Mono P ops n a0 w0 F Vs os → ∃ Ws : List Pv, Ws.length = os.length ∧ F (Vs ++ Ws) ∧ ∀ k o, os[k]? = some o → ∃ V js, Ws[k]? = some V ∧ (pairB ops (Vs.length + k) js && lookB ops n (Vs.length + k) js) = true ∧ ∀ w, w0.grownBy w none → Ask P ops ((Vs ++ Ws).take (Vs.length + k)) (Told V o.dst a0.defers w) o w js a0
  | [], Vs, h => ⟨[], rfl, by rw [List.append_nil]; exact h, fun k o hk => by simp at hk⟩
  | o :: os, Vs, ⟨V, js, hb, hA, hM⟩ => by
    obtain ⟨Ws, hl, hF, hk⟩ := Mono.out hM
    refine ⟨V :: Ws, by simp [hl], by simpa using hF, fun k o' ho => ?_⟩
    cases k with
    | zero =>
      obtain rfl : o = o' := by simpa using ho
      exact ⟨V, js, rfl, hb, fun w hw => by simpa using hA w hw⟩
    | succ k =>
      obtain ⟨V', js', h1, h2, h3⟩ := hk k o' (by simpa using ho)
      refine ⟨V', js', by simpa using h1, ?_, fun w hw => ?_⟩
      · simpa [Nat.add_assoc, Nat.add_comm 1 k] using h2
      · have := h3 w hw
        simpa [Nat.add_assoc, Nat.add_comm 1 k] using this

theorem Mono.weak {F G : List Pv → Prop} : ∀ {os : List Oper} {Vs : List Pv}, Mono P ops n a0 w0 F Vs os → (∀ Ws, Ws.length = Vs.length + os.length → F Ws → G Ws) → Mono P ops n a0 w0 G Vs os
  | [], Vs, h, hg => hg Vs (by simp) h
  | o :: os, Vs, ⟨V, js, hb, hA, hM⟩, hg => ⟨V, js, hb, hA, Mono.weak hM fun Ws hW => hg Ws (by simp at hW ⊢; omega)⟩
def valOf (dst : Option Tmp) (a : Act) : Value := match dst with | some d => a.eval (.tmp d) | none => undef
structure MInv (ops : Array Oper) (n : Nat) (a0 : Act) (w0 : World) (Vs : List Pv) (D : Array Bool) (a : Act) (w : World) : Prop where
  head : HeadInv .any ops n D
  grown : w0.grownBy w none
  tsize : a.tmps.size = a0.tmps.size
  defers : a.defers = a0.defers
  rest : ∀ t, (∀ j, j < n → D.getD j false = true → dstAt ops j ≠ some t) → a.tmps[t]? = a0.tmps[t]?
  known : ∀ j V, D.getD j false = true → Vs[j]? = some V → V.p (valOf (dstAt ops j) a) w
def cnt (D : Array Bool) : Nat → Nat
  | 0 => 0
  | k + 1 => cnt D k + if D.getD k false then 0 else 1
theorem cnt_set {D : Array Bool} {i : Nat} : ∀ k, (k ≤ i → cnt (D.setIfInBounds i true) k = cnt D k) ∧ (i < k → D.getD i true = false → cnt (D.setIfInBounds i true) k + 1 = cnt D k)
  | 0 => ⟨fun _ => rfl, fun h => by omega⟩
  | k + 1 => by
    obtain ⟨h1, h2⟩ := cnt_set (D := D) (i := i) k
    refine ⟨fun h => ?_, fun h hf => ?_⟩
    · simp only [cnt]
      rw [h1 (by omega), getD_set_ne false (by omega)]
    · simp only [cnt]
      by_cases e : i = k
      · subst e
        have hlt : i < D.size := by
          rcases Nat.lt_or_ge i D.size with h' | h'
          · exact h'
          · simp [Array.getElem?_eq_none h'] at hf
        rw [h1 (Nat.le_refl _), getD_both hf]
        simp [hlt]
      · have := h2 (by omega) hf
        rw [getD_set_ne false e]
        omega
theorem cnt_zero {D : Array Bool} : ∀ {k}, cnt D k = 0 → ∀ i, i < k → D.getD i false = true
  | 0, _, i, h => by omega
  | k + 1, h, i, hi => by
    simp only [cnt] at h
    by_cases e : i = k
    · subst e
      by_cases hd : D.getD i false = true
      · exact hd
      · simp [hd] at h
    · exact cnt_zero (k := k) (by omega) i (by omega)
theorem cnt_false (m : Nat) : ∀ k, cnt (Array.replicate m false) k = k
  | 0 => rfl
  | k + 1 => by simp only [cnt, cnt_false m k, getD_replicate_false]; rfl
theorem av_of {D : Array Bool} {i : Nat} (hcl : ∀ j oj, ops[j]? = some oj → D.getD j false = true → ∀ e ∈ oj.after, Region.binds .any e = true → D.getD e.on false = true) (hsz : D.size = ops.size) (hi : D.getD i false = false) : ∀ f k, D.getD k false = true → av ops i f k = true
  | 0, k, hk => by
    simp only [av, bne_iff_ne]
    rintro rfl
    rw [hi] at hk
    cases hk
  | f + 1, k, hk => by
    have hlt : k < ops.size := by
      rcases Nat.lt_or_ge k D.size with h' | h'
      · omega
      · simp [Array.getElem?_eq_none h'] at hk
    have ho : ops[k]? = some ops[k] := Array.getElem?_eq_getElem hlt
    simp only [av, ho, Option.map_some, Option.getD_some, Bool.and_eq_true, bne_iff_ne]
    refine ⟨?_, ?_⟩
    · rintro rfl
      rw [hi] at hk
      cases hk
    · rw [Array.all_eq_true_iff_forall_mem]
      intro e he
      by_cases hb : Region.binds .any e = true
      · simp [hb, av_of hcl hsz hi f e.on (hcl k _ ho hk e he hb)]
      · simp [hb]
theorem list_all_range {n : Nat} {p : Nat → Bool} (h : (List.range n).all p = true) {i : Nat} (hi : i < n) : p i = true := List.all_eq_true.1 h i (List.mem_range.2 hi)
theorem match_valOf (dst : Option Tmp) (a : Act) : (match dst with | some d => a.eval (.tmp d) | none => undef) = valOf dst a := by cases dst <;> rfl
theorem told_letsOut {V : Pv} {dst : Option Tmp} {ds : List Deferred} {w : World} : ¬ LetsOut (Told V dst ds w) := by
  rintro ⟨a, w', e, _⟩
  cases e
theorem told_op {V : Pv} {o : Oper} {a b : Act} {w : World} (hs : ∀ cs b, o.op ≠ .select cs b) (hd : ∀ d, o.dst = some d → d < a.tmps.size) (hsz : b.tmps.size = a.tmps.size) (hlook : ∀ t ∈ o.looksAt ops, b.tmps[t]? = a.tmps[t]?) {i : Nat} (hi : ops[i]? = some o)
    (hdf : b.defers = a0.defers) (h : wpList P ops (Told V o.dst a0.defers w) [o] b w) : wpOp P ops Q i (fun a' w' => ∃ v, a' = a.put o.dst v ∧ V.p (match o.dst with | some _ => v | none => undef) w' ∧ w.grownBy w' none) a w := by
  have hex : execOp b.eval o = execOp a.eval o := execOp_congr o hs fun x hx => by
    cases x with
    | tmp t => exact eval_of _ _ _ (hlook t (List.mem_append_left _ (List.mem_filterMap.2 ⟨.tmp t, by simpa using hx, rfl⟩)))
    | _ => rfl
  have hwn : Region.wanted o (yielded ops b.tmps) = Region.wanted o (yielded ops a.tmps) := by
    unfold Region.wanted
    cases hg : o.guard with
    | none => rfl
    | some gw =>
      obtain ⟨g, want⟩ := gw
      have hy : yielded ops b.tmps g = yielded ops a.tmps g := by
        unfold yielded
        cases ht : (ops[g]?).bind (·.dst) with
        | none => rfl
        | some t => simp only [Option.bind_some, hlook t (by simp [Oper.looksAt, hg, ht])]
      simp only [hy]
  have fin : ∀ v w', Told V o.dst a0.defers w .normal (b.put o.dst v) w' → ∃ v', a.put o.dst v = a.put o.dst v' ∧ V.p (match o.dst with | some _ => v' | none => undef) w' ∧ w.grownBy w' none := by
    rintro v w' ⟨_, _, h1, h2⟩
    refine ⟨v, rfl, ?_, h2⟩
    cases hdd : o.dst with
    | none => rw [hdd] at h1; exact h1
    | some d =>
      rw [hdd] at h1
      have hlt := hd d hdd
      have : (b.put (some d) v).eval (.tmp d) = v := by simp [Act.put, Act.eval, Array.getD_eq_getD_getElem?, hsz, hlt]
      simp only [this] at h1
      exact h1
  unfold wpOp
  simp only [hi]
  simp only [wpList, hwn] at h
  split
  · rename_i hw
    rw [if_pos hw] at h
    rcases h with h | h
    · left
      unfold Oper.wp at h ⊢
      rw [hex] at h
      generalize (execOp a.eval o).run P w = r at *
      cases r with
      | ok x w' =>
        cases x with
        | value v => exact fin v w' h
        | skip => exact fin undef w' h
        | enter f args =>
          refine Calls.mono h fun e w'' he => ?_
          cases e with
          | returned u => exact fin u w'' he
          | panicked c => exact absurd he.1 (by simp)
          | outgrown => exact absurd he told_letsOut
        | row row args => exact Rows.mono h fun u w'' he => fin u w'' he
        | defer d =>
          obtain ⟨_, h1, _⟩ := h
          have h1 : (Act.put { b with defers := d :: b.defers } o.dst undef).defers = a0.defers := h1
          rw [put_defers, ← hdf] at h1
          exact absurd (congrArg List.length h1) (by simp)
        | _ => exact h.elim
      | halt x w' =>
        cases x with
        | panic v => exact absurd h.1 (by simp)
        | _ => exact h.elim
    · exact absurd h.2 told_letsOut
  · rename_i hw
    rw [if_neg hw] at h
    exact fin undef w h
theorem minv_step {Vs : List Pv} {D : Array Bool} {a a' : Act} {w w' : World} {i : Nat} {o : Oper} {V : Pv} {v : Value} (inv : MInv ops n a0 w0 Vs D a w) (hd : distB ops n a0.tmps.size = true) (hi : i ∈ Region.ready .any ops D) (hin : i < n) (ho : ops[i]? = some o) (hV : Vs[i]? = some V) (hnl : Vs.length ≤ n)
    (ha : a' = a.put o.dst v) (hv : V.p (match o.dst with | some _ => v | none => undef) w') (hg : w.grownBy w' none) : MInv ops n a0 w0 Vs (D.setIfInBounds i true) a' w' := by
  subst ha
  have hdi : dstAt ops i = o.dst := by simp [dstAt, ho]
  have hun : D.getD i true = false := (mem_ready.1 hi).1
  have hlt : i < D.size := by
    rcases Nat.lt_or_ge i D.size with h' | h'
    · exact h'
    · simp [Array.getElem?_eq_none h'] at hun
  refine ⟨inv.head.set hi hin, inv.grown.trans hg, (put_size _ _ _).trans inv.tsize, (put_defers _ _ _).trans inv.defers, fun t ht => ?_, fun j W hj hW => ?_⟩
  · have h1 : o.dst ≠ some t := fun e => ht i hin (by simp [hlt]) (hdi.trans e)
    refine Eq.trans ?_ (inv.rest t fun j hj hD => ht j hj (getD_set_true hD))
    cases hdd : o.dst with
    | none => rfl
    | some d => exact put_at _ _ _ _ (fun e => h1 (by rw [hdd, e]))
  · by_cases e : i = j
    · subst e
      obtain rfl : V = W := Option.some.inj (hV.symm.trans hW)
      rw [hdi]
      cases hdd : o.dst with
      | none => rw [hdd] at hv; exact hv
      | some d =>
        rw [hdd] at hv
        have hds := list_all_range hd hin
        rw [hdi, hdd] at hds
        simp only [Bool.and_eq_true, decide_eq_true_eq] at hds
        have : (a.put (some d) v).eval (.tmp d) = v := by simp [Act.put, Act.eval, Array.getD_eq_getD_getElem?, inv.tsize, hds.1]
        show V.p ((a.put (some d) v).eval (.tmp d)) w'
        rw [this]
        exact hv
    · have hjn : j < n := by have := (List.getElem?_eq_some_iff.1 hW).1; omega
      rw [getD_set_ne false e] at hj
      have h1 := W.st (inv.known j W hj hW) hg
      cases hdj : dstAt ops j with
      | none => rw [hdj] at h1; exact h1
      | some dj =>
        rw [hdj] at h1
        have h1 : W.p (a.eval (.tmp dj)) w' := h1
        show W.p ((a.put o.dst v).eval (.tmp dj)) w'
        cases hdd : o.dst with
        | none => exact h1
        | some d =>
          have hds := list_all_range hd hin
          rw [hdi, hdd] at hds
          simp only [Bool.and_eq_true, decide_eq_true_eq] at hds
          have h2 := list_all_range hds.2 hjn
          simp only [Bool.or_eq_true, beq_iff_eq, bne_iff_ne, ne_eq] at h2
          have h3 : d ≠ dj := fun e' => (h2.resolve_left (fun e2 => e e2.symm)) (by rw [hdj, e'])
          rw [eval_of _ a dj (put_at a d dj v h3)]
          exact h1
/-- The law. -/
theorem wpAny_mono {l : List Oper} (n : Nat) (hB : monoB l.toArray n a0.tmps.size = true)
    (h : Mono P l.toArray n a0 w0 (fun Vs => ∀ w, w0.grownBy w none → Fin' (fun a w => wpList P l.toArray Q (l.drop n) a w) w Vs (l.take n) a0) [] (l.take n)) : wpAny P .any l.toArray Q l.toArray.size (Array.replicate l.toArray.size false) a0 w0 := by
  simp only [monoB, Bool.and_eq_true, decide_eq_true_eq] at hB
  obtain ⟨⟨⟨⟨hsel, hn⟩, htail⟩, htopo⟩, hdist⟩ := hB
  simp only [tailB, Bool.and_eq_true] at htail
  obtain ⟨hblk, hseq⟩ := htail
  obtain ⟨Vs, hVl, hF, hO⟩ := Mono.out h
  rw [List.nil_append] at hF
  simp only [List.nil_append, List.length_nil, Nat.zero_add] at hO
  have hnl : n ≤ l.length := by simpa using hn
  have htl : (l.take n).length = n := by simp; omega
  have hVn : Vs.length = n := hVl.trans htl
  have hdl : (l.drop n).length = l.toArray.size - n := by simp
  have hnext : ∀ i o, i < n → l.toArray[i]? = some o → (l.take n)[i]? = some o := fun i o hi ho => by
    rw [List.getElem?_take, if_pos hi]
    simpa using ho
  have key : ∀ m D a w, MInv l.toArray n a0 w0 Vs D a w → cnt D n = m → wpAny P .any l.toArray Q (m + (l.toArray.size - n)) D a w := by
    intro m
    induction m with
    | zero =>
      intro D a w inv hc
      have hall := cnt_zero hc
      have hD : D = Array.replicate n true ++ Array.replicate (l.toArray.size - n) false := by
        have hsz := inv.head.size
        refine Array.ext (by simp [hsz]; omega) fun i h1 h2 => ?_
        rw [Array.getElem_append]
        by_cases hi : i < n
        · have := hall i hi
          simp [h1] at this
          simp [hi, this]
        · have := inv.head.tail i (by omega) (by omega)
          simp [h1] at this
          simp [hi, this]
      have hk : ∀ (k : Nat) (V : Pv) (o : Oper), Vs[k]? = some V → (l.take n)[k]? = some o → V.p (match o.dst with | some d => a.eval (.tmp d) | none => undef) w := by
        intro k V o hv ho
        have hkn : k < n := by have := (List.getElem?_eq_some_iff.1 hv).1; omega
        have h1 := inv.known k V (hall k hkn) hv
        have h2 : dstAt l.toArray k = o.dst := by
          have : l[k]? = some o := by rw [List.getElem?_take, if_pos hkn] at ho; exact ho
          simp [dstAt, this]
        rw [h2] at h1
        rw [match_valOf]
        exact h1
      have hfin := Fin'.all hVl hk (hF w inv.grown)
      have hon : onto a ((l.take n).map (·.dst)) a0 = a := by
        refine act_ext (fun t => onto_at a t _ _ inv.tsize.symm ?_) ((onto_defers _ _ _).trans inv.defers.symm)
        by_cases ht : some t ∈ (l.take n).map (·.dst)
        · exact .inl ht
        · refine .inr (inv.rest t fun j hj _ e => ht ?_).symm
          have hjl : j < l.length := by omega
          have : l[j].dst = some t := by simpa [dstAt, hjl] using e
          exact List.mem_map.2 ⟨l[j], List.mem_iff_getElem?.2 ⟨j, by rw [List.getElem?_take, if_pos hj, List.getElem?_eq_getElem hjl]⟩, this⟩
      rw [hon] at hfin
      have := wpAny_of_seq (md := .any) (Q' := Q) (l.drop n) n D a w (fun j => by simp [List.getElem?_drop]) (by rw [hdl, hD]; exact hseq) hfin
      rw [hdl] at this
      rwa [Nat.zero_add]
    | succ m ih =>
      intro D a w inv hc
      have hready : ∀ i ∈ Region.ready .any l.toArray D, i < n := by
        intro i hi
        rcases Nat.lt_or_ge i n with h' | h'
        · exact h'
        · obtain ⟨hu, oi, hoi, hall⟩ := mem_ready.1 hi
          have hlt : i < l.toArray.size := (Array.getElem?_eq_some_iff.1 hoi).1
          exfalso
          obtain ⟨k, hk, hkd⟩ : ∃ k, k < n ∧ D.getD k false = false := by
            refine Classical.byContradiction fun hno => ?_
            have : ∀ k, k ≤ n → cnt D k = 0 := by
              intro k
              induction k with
              | zero => intro _; rfl
              | succ k ihk =>
                intro hk
                have h1 : D.getD k false = true := by
                  refine Classical.byContradiction fun hx => hno ⟨k, by omega, by simpa using hx⟩
                simp only [cnt, h1, ihk (by omega)]
                rfl
            rw [this n (Nat.le_refl _)] at hc
            omega
          have hb := list_all_range hblk hlt
          simp only [Bool.or_eq_true, decide_eq_true_eq] at hb
          have hb := list_all_range (hb.resolve_left (by omega)) hk
          simp only [Bool.not_eq_true'] at hb
          have hik : i ≠ k := by omega
          have : av l.toArray k n i = true := by
            have hav := fun f j hj => av_of (ops := l.toArray) inv.head.closed inv.head.size hkd f j hj
            cases hn0 : n with
            | zero => simp [av, hik]
            | succ f =>
              simp only [av, hoi, Option.map_some, Option.getD_some, Bool.and_eq_true, bne_iff_ne]
              refine ⟨hik, ?_⟩
              rw [Array.all_eq_true_iff_forall_mem]
              intro e he
              by_cases hbd : Region.binds .any e = true
              · simp [hbd, hav f e.on (hall e he hbd)]
              · simp [hbd]
          rw [hb] at this
          cases this
      have hne : Region.ready .any l.toArray D ≠ [] := by
        have hex : ∃ k, k < n ∧ D.getD k false = false ∧ ∀ j, j < k → D.getD j false = true := by
          have : ∀ k, k ≤ n → (∃ q, q < k ∧ D.getD q false = false ∧ ∀ j, j < q → D.getD j false = true) ∨ (cnt D k = 0) := by
            intro k
            induction k with
            | zero => intro _; exact .inr rfl
            | succ k ihk =>
              intro hk
              rcases ihk (by omega) with ⟨q, h1, h2⟩ | h0
              · exact .inl ⟨q, by omega, h2⟩
              · cases hq : D.getD k false with
                | true => right; simp only [cnt, hq, h0]; rfl
                | false => exact .inl ⟨k, by omega, hq, cnt_zero h0⟩
          rcases this n (Nat.le_refl _) with ⟨q, h1, h2⟩ | h0
          · exact ⟨q, h1, h2⟩
          · omega
        obtain ⟨k, hk, hkd, hbel⟩ := hex
        have hkl : k < l.toArray.size := by omega
        have ho : l.toArray[k]? = some l.toArray[k] := Array.getElem?_eq_getElem hkl
        have : k ∈ Region.ready .any l.toArray D := by
          refine mem_ready.2 ⟨getD_in (by rw [inv.head.size]; exact hkl) hkd, _, ho, fun e he hb => hbel _ ?_⟩
          have ht := list_all_range htopo hk
          simp only [ho, Option.map_some, Option.getD_some] at ht
          have := Array.all_eq_true_iff_forall_mem.1 ht e he
          simpa [hb] using this
        intro e
        rw [e] at this
        cases this
      rw [show m + 1 + (l.toArray.size - n) = (m + (l.toArray.size - n)) + 1 by omega]
      refine ⟨fun e => absurd e hne, fun i hi => ?_⟩
      have hin := hready i hi
      obtain ⟨hu, o, ho, hall⟩ := mem_ready.1 hi
      obtain ⟨V, js, hV, hchk, hask⟩ := hO i o (hnext i o hin ho)
      simp only [Bool.and_eq_true] at hchk
      obtain ⟨hpair, hlook⟩ := hchk
      have hdst : ∀ d, o.dst = some d → d < a.tmps.size := by
        intro d hd
        have := list_all_range hdist hin
        have h2 : dstAt l.toArray i = some d := by simp only [dstAt, ho]; exact hd
        rw [h2] at this
        simp only [Bool.and_eq_true, decide_eq_true_eq] at this
        rw [inv.tsize]
        exact this.1
      have hjs : ∀ x : Nat × Tmp, x ∈ js → dstAt l.toArray x.1 = some x.2 ∧ D.getD x.1 false = true ∧ x.1 < i := by
        intro x hx
        have := List.all_eq_true.1 hpair x hx
        simp only [Bool.and_eq_true, beq_iff_eq] at this
        obtain ⟨oj, hoj, e, he, hb, hon⟩ := Region.waitsFor_spec this.2
        obtain rfl : o = oj := Option.some.inj (ho.symm.trans hoj)
        have ht := list_all_range htopo hin
        simp only [ho, Option.map_some, Option.getD_some] at ht
        have ht := Array.all_eq_true_iff_forall_mem.1 ht e he
        simp only [hb, Bool.not_true, Bool.false_or, decide_eq_true_eq] at ht
        exact ⟨this.1, by rw [← hon]; exact hall e he hb, by rw [← hon]; exact ht⟩
      have hA := hask w inv.grown
      have hW := Ask.all (b := a) (fun x hx => by
        obtain ⟨h1, h2, h3⟩ := hjs x hx
        have hxl : x.1 < Vs.length := by omega
        have h4 : Vs[x.1]? = some Vs[x.1] := List.getElem?_eq_getElem hxl
        have h5 := inv.known x.1 _ h2 h4
        rw [h1] at h5
        have : (Vs.take i).getD x.1 Pv.any = Vs[x.1] := by
          rw [List.getD_eq_getElem?_getD, List.getElem?_take, if_pos h3, h4]
          rfl
        rw [this]
        exact h5) hA
      have hop := told_op (Q := Q) (ops := l.toArray) (a0 := a0) (a := a) (Region.noSelect_spec hsel i o · · ho) hdst ((onto_size _ _ _).trans inv.tsize.symm) (fun t ht => by
        refine onto_at a t _ _ inv.tsize.symm ?_
        have h1 : (o.looksAt l.toArray).all (fun t => js.any (·.2 == t) || keptB l.toArray n i t) = true := by
          simpa only [lookB, ho, Option.map_some, Option.getD_some] using hlook
        have h2 := List.all_eq_true.1 h1 t ht
        simp only [Bool.or_eq_true] at h2
        rcases h2 with h2 | h2
        · left
          obtain ⟨x, hx, hxt⟩ := List.any_eq_true.1 h2
          exact List.mem_map.2 ⟨x, hx, by rw [beq_iff_eq.1 hxt]⟩
        · right
          refine (inv.rest t fun j hj hD e => ?_).symm
          have h3 := list_all_range h2 hj
          simp only [Bool.or_eq_true, bne_iff_ne, ne_eq, beq_iff_eq] at h3
          rcases h3 with (h3 | h3) | h3
          · exact h3 e
          · obtain ⟨oj, hoj, e', he', hb', hon⟩ := Region.waitsFor_spec h3
            have := inv.head.closed j oj hoj hD e' he' hb'
            rw [hon, getD_both hu] at this
            cases this
          · subst h3
            rw [getD_both hu] at hD
            cases hD) ho (onto_defers _ _ _) hW
      refine wpOp_mono (fun a' w' hk => ?_) hop
      obtain ⟨v, ha, hv, hg⟩ := hk
      exact ih _ a' w' (minv_step inv hdist hi hin ho hV (by omega) ha hv hg) (by have := (cnt_set (D := D) (i := i) n).2 hin hu; omega)
  have h0 := key n (Array.replicate l.toArray.size false) a0 w0 ⟨⟨by simp, (fun j oj _ hD => by rw [getD_replicate_false] at hD; cases hD), fun t _ ht => by simp only [List.size_toArray] at ht ⊢; simp [ht]⟩, World.grownBy.refl w0 none, rfl, rfl, fun _ _ => rfl, (fun j V hD => by rw [getD_replicate_false] at hD; cases hD)⟩ (cnt_false _ n)
  rwa [show n + (l.toArray.size - n) = l.toArray.size by omega] at h0
/-- One operation that is carried out .. -/
theorem ask_do {V : Pv} {ds : List Deferred} {o : Oper} {a : Act} {w : World} (hw : Region.wanted o (yielded ops a.tmps) = true)
    (h : ∀ K : Act → World → Prop, (∀ a' w', a'.defers = ds → V.p (match o.dst with | some d => a'.eval (.tmp d) | none => undef) w' → w.grownBy w' none → K a' w') → o.wp P a w K (Told V o.dst ds w)) : wpList P ops (Told V o.dst ds w) [o] a w := by
  unfold wpList
  rw [if_pos hw]
  exact .inl (h _ fun a' w' h1 h2 h3 => ⟨rfl, h1, h2, h3⟩)
/-- The same, over the whole row. -/
def MonoN (P : Program) (ops : Array Oper) (n : Nat) (a0 : Act) (w0 : World) (F : List Pv → List Oper → Prop) : Nat → List Pv → List Oper → Prop
  | 0, Vs, os => F Vs os
  | _ + 1, _, [] => False
  | k + 1, Vs, o :: os => ∃ (V : Pv) (js : List (Nat × Tmp)), (pairB ops Vs.length js && lookB ops n Vs.length js) = true ∧ (∀ w, w0.grownBy w none → Ask P ops Vs (Told V o.dst a0.defers w) o w js a0) ∧ MonoN P ops n a0 w0 F k (Vs ++ [V]) os
theorem MonoN.step {F : List Pv → List Oper → Prop} {k : Nat} {Vs : List Pv} {o : Oper} {os : List Oper} (V : Pv) (js : List (Nat × Tmp)) (hc : (pairB ops Vs.length js && lookB ops n Vs.length js) = true) (hA : ∀ w, w0.grownBy w none → Ask P ops Vs (Told V o.dst a0.defers w) o w js a0) (h : MonoN P ops n a0 w0 F k (Vs ++ [V]) os) : MonoN P ops n a0 w0 F (k + 1) Vs (o :: os) := ⟨V, js, hc, hA, h⟩
/-- What is behind them. -/
def FinN (P : Program) (ops : Array Oper) (Q : Exit → Act → World → Prop) (w : World) : List Pv → List Oper → Act → Prop
  | V :: Vs, o :: os, a => ∀ x, V.p x w → FinN P ops Q w Vs os (a.put o.dst x)
  | _, os, a => wpList P ops Q os a w
theorem FinN.cut {w : World} : ∀ {Vs : List Pv} {os : List Oper} {a : Act}, Vs.length ≤ os.length → FinN P ops Q w Vs os a → Fin' (fun a w => wpList P ops Q (os.drop Vs.length) a w) w Vs (os.take Vs.length) a
  | [], os, a, _, h => by
    have h : wpList P ops Q os a w := by cases os <;> exact h
    exact h
  | V :: Vs, [], a, hl, _ => by simp at hl
  | V :: Vs, o :: os, a, hl, h => fun x hx => FinN.cut (Vs := Vs) (os := os) (by simpa using hl) (h x hx)
theorem MonoN.cut {F : List Pv → List Oper → Prop} : ∀ {k : Nat} {Vs : List Pv} {os : List Oper}, MonoN P ops n a0 w0 F k Vs os → Mono P ops n a0 w0 (fun Ws => F Ws (os.drop k)) Vs (os.take k) ∧ k ≤ os.length
  | 0, Vs, os, h => ⟨by cases os <;> exact h, Nat.zero_le _⟩
  | k + 1, Vs, [], h => h.elim
  | k + 1, Vs, o :: os, ⟨V, js, hc, hA, h⟩ => ⟨⟨V, js, hc, hA, (MonoN.cut h).1⟩, by simpa using (MonoN.cut h).2⟩
theorem wpAny_monoN {l : List Oper} (n : Nat) (hB : monoB l.toArray n a0.tmps.size = true)
    (h : MonoN P l.toArray n a0 w0 (fun Vs _ => ∀ w, w0.grownBy w none → FinN P l.toArray Q w Vs l a0) n [] l) : wpAny P .any l.toArray Q l.toArray.size (Array.replicate l.toArray.size false) a0 w0 := by
  obtain ⟨hM, hn⟩ := MonoN.cut h
  obtain ⟨Vs, hVl, hF, hO⟩ := Mono.out hM
  have hVn : Vs.length = n := by rw [hVl]; simp; omega
  refine wpAny_mono n hB (Mono.weak hM fun Ws hW hF w hw => ?_)
  have := FinN.cut (by rw [hW]; simp; omega) (hF w hw)
  rw [show Ws.length = n by rw [hW]; simp; omega] at this
  exact this
/-- The same, with what is known in the row in which it came, the last first. -/
def MonoR (P : Program) (ops : Array Oper) (n : Nat) (a0 : Act) (w0 : World) (F : List Pv → Prop) : Nat → List Pv → List Oper → Prop
  | 0, Rs, _ => F Rs.reverse
  | _ + 1, _, [] => False
  | k + 1, Rs, o :: os => ∃ (V : Pv) (js : List (Nat × Tmp)), (pairB ops Rs.length js && lookB ops n Rs.length js) = true ∧ (∀ w, w0.grownBy w none → Ask P ops Rs.reverse (Told V o.dst a0.defers w) o w js a0) ∧ MonoR P ops n a0 w0 F k (V :: Rs) os
theorem MonoR.step {F : List Pv → Prop} {k : Nat} {Rs : List Pv} {o : Oper} {os : List Oper} (V : Pv) (js : List (Nat × Tmp)) (hc : (pairB ops Rs.length js && lookB ops n Rs.length js) = true) (hA : ∀ w, w0.grownBy w none → Ask P ops Rs.reverse (Told V o.dst a0.defers w) o w js a0) (h : MonoR P ops n a0 w0 F k (V :: Rs) os) : MonoR P ops n a0 w0 F (k + 1) Rs (o :: os) := ⟨V, js, hc, hA, h⟩
theorem MonoR.up {F : List Pv → Prop} : ∀ {k : Nat} {Rs : List Pv} {os : List Oper}, MonoR P ops n a0 w0 F k Rs os → MonoN P ops n a0 w0 (fun Vs _ => F Vs) k Rs.reverse os
  | 0, _, _, h => h
  | _ + 1, _, [], h => h.elim
  | k + 1, Rs, o :: os, ⟨V, js, hc, hA, h⟩ => ⟨V, js, by rw [List.length_reverse]; exact hc, hA, by have := MonoR.up h; rwa [List.reverse_cons] at this⟩
theorem wpAny_monoR {l : List Oper} (n : Nat) (hB : monoB l.toArray n a0.tmps.size = true)
    (h : MonoR P l.toArray n a0 w0 (fun Vs => ∀ w, w0.grownBy w none → FinN P l.toArray Q w Vs l a0) n [] l) : wpAny P .any l.toArray Q l.toArray.size (Array.replicate l.toArray.size false) a0 w0 :=
  wpAny_monoN n hB (MonoR.up h)
theorem wp_region_mono {l : List Oper} {id : Nat} (n : Nat) (hm : P.follows .mixedOrders = true) (hB : monoB l.toArray n a0.tmps.size = true)
    (h : MonoR P l.toArray n a0 w0.drew (fun Vs => ∀ w, w0.drew.grownBy w none → FinN P l.toArray Q w Vs l a0) n [] l) : (Code.region id l.toArray true).wp P Q a0 w0 :=
  wp_region_any hm (wpAny_monoR n hB h)
end
def TT : Nat → Prop := fun _ => True
/-- Things laid one behind the other into a new block. -/
def RepL {α : Type} (E : Enc α) (w : World) : List (List Value) → List α → Prop
  | [], [] => True
  | c :: cs, x :: xs => E.rep TT w c x ∧ RepL E w cs xs
  | _, _ => False
theorem RepL.out {α : Type} {E : Enc α} {w : World} : ∀ {css : List (List Value)} {xs : List α}, RepL E w css xs → css.length = xs.length ∧ ∀ i (h : i < xs.length) (h' : i < css.length), E.rep TT w css[i] xs[i]
  | [], [], _ => ⟨rfl, fun i h => by simp at h⟩
  | c :: cs, x :: xs, ⟨h1, h2⟩ => by
    obtain ⟨k1, k2⟩ := RepL.out h2
    refine ⟨by simp [k1], fun i h h' => ?_⟩
    cases i with
    | zero => exact h1
    | succ i => exact k2 i (by simpa using h) (by simpa using h')
theorem RepL.kept {α : Type} {E : Enc α} {w w' : World} (hg : w.grownBy w' none) : ∀ {css : List (List Value)} {xs : List α}, RepL E w css xs → RepL E w' css xs
  | [], [], _ => trivial
  | _ :: _, _ :: _, ⟨h1, h2⟩ => ⟨E.keep h1 hg (by simp), RepL.kept hg h2⟩
theorem Sl.build {α : Type} {E : Enc α} {w : World} {t : TypeId} {cs : Array Value} {xs : List α} {n : Nat} (css : List (List Value)) (hn : xs.length = n) (hr : RepL E w css xs) (hc : cs.toList = css.flatten) (hb : n ≤ 9223372036854775807) : Sl E TT (w.alloc (.cells cs t)) (.slice (some ⟨w.heap.size, 0, none⟩) n n) xs := by
  subst hn
  obtain ⟨h1, h2⟩ := (hr.kept (World.grownBy_alloc w (.cells cs t) none)).out
  exact Sl.block (Bk.new w t cs) trivial css h1 h2 hc (Nat.le_refl _) hb
end Go.Proofs.YtphbcfpiklmmeaaGreatDoor

namespace Go.Proofs.YtphbcfpiklmmeaaGreatDoor
open Go

section
variable {P : Program} {ops : Array Oper} {Q : Exit → Act → World → Prop} {n : Nat} {a0 : Act} {w0 : World}

def ToldC (u : Value) (dst : Option Tmp) (ds : List Deferred) (K : World → Prop) : Exit → Act → World → Prop := fun e a' w' => e = .normal ∧ a'.defers = ds ∧ (match dst with | some d => a'.eval (.tmp d) | none => undef) = u ∧ K w'
def FlagR (P : Program) (ops : Array Oper) (n : Nat) (a0 : Act) (C : Array Bool → World → Prop) (us : List Value) : Nat → Nat → List Oper → Prop
  | 0, _, _ => True
  | _ + 1, _, [] => False
  | k + 1, i, o :: os => (∃ js : List (Nat × Tmp), (pairB ops i js && lookB ops n i js) = true ∧ ∀ D w, D.size = ops.size → D.getD i false = false → (∀ k, av ops i n k = false → D.getD k false = false) → C D w → Ask P ops (us.map Pv.eq) (ToldC (us.getD i undef) o.dst a0.defers (C (D.setIfInBounds i true))) o w js a0) ∧ FlagR P ops n a0 C us k (i + 1) os
theorem FlagR.out {C : Array Bool → World → Prop} {us : List Value} : ∀ {k i : Nat} {os : List Oper}, FlagR P ops n a0 C us k i os → ∀ m o, m < k → os[m]? = some o → ∃ js : List (Nat × Tmp), (pairB ops (i + m) js && lookB ops n (i + m) js) = true ∧ ∀ D w, D.size = ops.size → D.getD (i + m) false = false → (∀ k, av ops (i + m) n k = false → D.getD k false = false) → C D w → Ask P ops (us.map Pv.eq) (ToldC (us.getD (i + m) undef) o.dst a0.defers (C (D.setIfInBounds (i + m) true))) o w js a0
  | 0, _, _, _, m, o, hm, _ => by omega
  | _ + 1, _, [], h, _, _, _, _ => h.elim
  | k + 1, i, o :: os, h, m, o', hm, ho => by
    cases m with
    | zero =>
      obtain rfl : o = o' := by simpa using ho
      exact h.1
    | succ m =>
      have := FlagR.out h.2 m o' (by omega) (by simpa using ho)
      rwa [show i + 1 + m = i + (m + 1) by omega] at this
theorem FlagR.step {C : Array Bool → World → Prop} {us : List Value} {k i : Nat} {o : Oper} {os : List Oper} (js : List (Nat × Tmp)) (hc : (pairB ops i js && lookB ops n i js) = true) (hA : ∀ D w, D.size = ops.size → D.getD i false = false → (∀ k, av ops i n k = false → D.getD k false = false) → C D w → Ask P ops (us.map Pv.eq) (ToldC (us.getD i undef) o.dst a0.defers (C (D.setIfInBounds i true))) o w js a0) (h : FlagR P ops n a0 C us k (i + 1) os) : FlagR P ops n a0 C us (k + 1) i (o :: os) := ⟨⟨js, hc, hA⟩, h⟩
end
end Go.Proofs.YtphbcfpiklmmeaaGreatDoor

namespace Go.Proofs.YtphbcfpiklmmeaaGreatDoor
open Go.RowKit

theorem add_gr (a b m : Int) (w : World) (ha : U64 a) (hb : U64 b) :
    Calls Tryz.prog 86 #[.int .u64 a, .int .u64 b, .int .u64 m] w fun e w' => e = .returned (.int .u64 (addI a b m)) ∧ w.grownBy w' none :=
  (add_any a b m w ha hb).mono fun _ _ ⟨he, n, hn⟩ => ⟨he, by rw [hn]; exact grownBy_drewN (World.grownBy.refl w none) n⟩
theorem mul_gr (a b m : Int) (w : World) (ha : U64 a) (hb : U64 b) :
    Calls Tryz.prog 87 #[.int .u64 a, .int .u64 b, .int .u64 m] w fun e w' => e = .returned (.int .u64 (mulI a b m)) ∧ w.grownBy w' none :=
  (mul_any a b m w ha hb).mono fun _ _ ⟨he, n, hn⟩ => ⟨he, by rw [hn]; exact grownBy_drewN (World.grownBy.refl w none) n⟩
end Go.Proofs.YtphbcfpiklmmeaaGreatDoor

namespace Go.Proofs.YtphbcfpiklmmeaaGreatDoor
open Go

section
variable {P : Program} {ops : Array Oper} {md : Region.Mode} {Q : Exit → Act → World → Prop} {n nn : Nat} {a0 : Act} {w0 : World}
def FinI (nn : Nat) (P : Program) (ops : Array Oper) (Q : Exit → Act → World → Prop) (w : World) : List Pv → List Oper → Act → Prop
  | V :: Vs, o :: os, a => ∀ x, V.p x w → FinI nn P ops Q w Vs os (a.put o.dst x)
  | _, os, a => wpListIn Fence.wide nn P ops Q os a w
theorem FinI.cut {w : World} : ∀ {Vs : List Pv} {os : List Oper} {a : Act}, Vs.length ≤ os.length → FinI nn P ops Q w Vs os a → Fin' (fun a w => wpListIn Fence.wide nn P ops Q (os.drop Vs.length) a w) w Vs (os.take Vs.length) a
  | [], os, a, _, h => by
    have h : wpListIn Fence.wide nn P ops Q os a w := by cases os <;> exact h
    exact h
  | V :: Vs, [], a, hl, _ => by simp at hl
  | V :: Vs, o :: os, a, hl, h => fun x hx => FinI.cut (Vs := Vs) (os := os) (by simpa using hl) (h x hx)
end
end Go.Proofs.YtphbcfpiklmmeaaGreatDoor

namespace Go.Proofs.YtphbcfpiklmmeaaGreatDoor
open Go Go.RowKit

section
variable {F : Fence} {n : Nat} {P : Program}
/-- An iterator that goes to its end: of each thing x handed over, Fx x is known where yield is called. -/
def SeqGoes {α : Type} (F : Fence) (n : Nat) (P : Program) (g : Nat) (lb : Array Value) (encs : α → Array Value) (Fx : α → World → Prop) (Kp : World → World → Prop) (S : List α → Prop) (N : Nat) (w : World) : Prop :=
  ∀ (l : Nat) (J : List α → World → Prop) (W : World), Below w.heap.size w W → AbidesFrom W.heap.size J →
    (∀ pre x V, J pre V → Fx x V → pre.length < N → YieldAt F (n - 1) P l (encs x) V fun e V' => e = .returned (.bool true) ∧ J (pre ++ [x]) V' ∧ Kp V V') →
    J [] W → CallsIn F n P g (#[.func (.yield l) #[] #[]] ++ lb) W fun e W' => (∃ v, e = .returned v) ∧ ∃ xs, S xs ∧ J xs W'
/-- How the body ends. -/
def GoesOn {α : Type} (B : Nat) (Kp : World → World → Prop) (I : List α → World → Prop) (xs : List α) (W : World) : Exit → Act → World → Prop := fun e _ W' => e = .normal ∧ KeepsFrom B W W' ∧ Kp W W' ∧ I xs W'
/-- The loop's own record, and the block of what is put off. -/
structure Recs (B : Nat) (r : Loop) (W : World) : Prop where
  lp : W.heap[B + 1]? = some (.loop r)
  df : W.heap[B]? = some (.deferred (some []))
theorem Recs.from {B : Nat} {r : Loop} {W W' : World} (h : Recs B r W) (hk : KeepsFrom B W W') : Recs B r W' := ⟨hk.same _ _ (by omega) h.lp rfl, hk.same _ _ (Nat.le_refl _) h.df rfl⟩
theorem Recs.put {B : Nat} {r : Loop} {W : World} (h : Recs B r W) (r' : Loop) : Recs B r' (W.putObj (B + 1) (.loop r')) := ⟨World.putObj_heap_same (Array.getElem?_eq_some_iff.1 h.lp).1, (World.putObj_heap_other (by omega)).trans h.df⟩
theorem Recs.walk {B : Nat} {r : Loop} {W W' : World} {row : Option Nat} (h : Recs B r W) (hg : W.grownBy W' row) (hr : ∀ k, row = some k → ∃ o : Obj, W.heap[k]? = some o ∧ o.isWalk = true) : Recs B r W' := ⟨(grownBy_keeps hg hr h.lp rfl).trans h.lp, (grownBy_keeps hg hr h.df rfl).trans h.df⟩
theorem wpIn_rangeFunc_goes {α : Type} {g : Operand} {ps : Array Tmp} {assign body : Code} {Q : Exit → Act → World → Prop} {a : Act} {w : World} (hro : F.round = none) (h1 : 1 ≤ n) {gf : Nat} {lb : Array Value} (hg : a.eval g = .func (.func gf) #[] lb) (hFg : F.fn gf)
    (eg : ∀ args w, (callFunc gf args).run P w = .ok (.enter gf args) w) {encs : α → Array Value} {Fx : α → World → Prop} {Kp : World → World → Prop} {S : List α → Prop} {N : Nat} {w0 : World} (hseq : SeqGoes F (n - 1) P gf lb encs Fx Kp S N w0)
    (hKt : ∀ {A B C : World}, Kp A B → Kp B C → Kp A C) (hKb : ∀ (W : World) (l : Nat) (o o' : Obj), w.heap.size ≤ l → W.heap[l]? = some o → o.isCells = false → o.isWalk = false → Kp W (W.putObj l o')) (hb0 : Below w0.heap.size w0 w) (hps : ∀ x, (encs x).size = ps.size)
    (I : List α → World → Prop) (hI : OwnFrom w.heap.size I) (h0 : I [] w) (Ax : α → Act → World → Prop) (hAx : ∀ x a', OwnFrom w.heap.size (fun (_ : Unit) W => Ax x a' W))
    (hassign : ∀ (l : Nat) (pre : List α) (x : α) (W : World) (K : Act → World → Prop), I pre W → Fx x W → (∀ a' W', KeepsFrom w.heap.size W W' → Kp W W' → I pre W' → Ax x a' W' → K a' W') →
      assign.wpIn (F.inRound l) (n - 1 - 1) P (Exit.then K (fun _ _ _ => False)) { tmps := (ps.zip (encs x)).foldl (fun t (p, v) => t.setIfInBounds p v) a.tmps, defers := [] } W)
    (hbody : ∀ (l : Nat) (pre : List α) (x : α) (a' : Act) (W : World), w.heap.size ≤ l → I pre W → Ax x a' W → pre.length < N → body.wpIn (F.inRound l) (n - 1 - 1) P (GoesOn w.heap.size Kp I (pre ++ [x]) W) a' W)
    (hdone : ∀ (D : Nat) (xs : List α) (W : World), w.heap.size ≤ D → S xs → I xs W → W.heap[D]? = some (.deferred (some [])) → Q .normal { a with defers := { target := .collected D, args := #[] } :: a.defers } W) :
    (Code.rangeFunc g ps assign body).wpIn F n P Q a w := by
  refine wpIn_rangeFunc fun fn hfn => ?_
  rw [hro]
  let rec0 : Loop := { state := .ready, pending := none, fn, tmps := a.tmps, params := ps, assign, body, defers := w.heap.size }
  let V0 := (w.alloc (.deferred (some []))).alloc (.loop rec0)
  have hR0 : Recs w.heap.size rec0 V0 := ⟨by have := World.alloc_heap_new (w.alloc (.deferred (some []))) (.loop rec0); rwa [World.size_alloc] at this, (Below.heap_alloc _ _ _ (by simp)).trans (World.alloc_heap_new w _)⟩
  have hV0 : V0.heap.size = w.heap.size + 2 := by simp [V0]
  have hI0 : I [] V0 := hI.alloc _ (hI.alloc _ h0)
  have hB0 : Below w0.heap.size w0 V0 := hb0.trans ((((Below.refl _ w).alloc (Nat.le_refl _) _).alloc (by simp) _).mono hb0.size)
  refine ⟨w.heap.size + 1, [{ target := .collected w.heap.size, args := #[] }], V0, { target := .fn (.func gf) lb, args := #[.func (.yield (w.heap.size + 1)) #[] #[]] }, V0, gf, #[.func (.yield (w.heap.size + 1)) #[] #[]] ++ lb, V0, run_enterLoop_outer _ _ _ _ _, ?_, ?_, ?_, fun _ => h1, ?_⟩
  · simp only [resolve, hg]
    simp [go_sem]
  · intro f' hf'
    simp [Target.leads] at hf'
    subst hf'
    exact hFg
  · simp [invoke, go_sem, eg]
  refine (hseq (w.heap.size + 1) (fun pre W => I pre W ∧ Recs w.heap.size rec0 W) V0 hB0 (fun s A B row hs hgr hr => ⟨hI s A B row hs.1 hgr fun r e => ?_, hs.2.walk hgr fun r e => (hr r e).2⟩) ?_ ⟨hI0, hR0⟩).mono ?_
  · obtain ⟨h2, o, ho, hw⟩ := hr r e
    exact ⟨by rw [hV0] at h2; omega, o, ho, Obj.not_cells_of_walk hw⟩
  · rintro pre x V ⟨hi, hr⟩ hfx hlen
    refine ⟨fn, _, assign, body, run_yield hr.lp (hps x), roundIn_of_wpIn hfn (hassign _ pre x V _ hi hfx fun a' V1 hk1 hp1 hi1 hx1 => ?_)⟩
    have hr1 := hr.from hk1
    refine ⟨_, run_beginRound hr1.lp rfl, ?_⟩
    have hr2 := hr1.put { rec0 with state := .busy }
    have hp2 := hKb V1 (w.heap.size + 1) _ (.loop { rec0 with state := .busy }) (by omega) hr1.lp rfl rfl
    refine wpIn_mono (hbody _ pre x a' _ (by omega) (hI.putObj _ hi1 (by omega) hr1.lp rfl) ((hAx x a').putObj (s := ()) _ hx1 (by omega) hr1.lp rfl) hlen) ?_
    rintro e a3 V3 ⟨rfl, hk3, hp3, hi3⟩
    have hr3 := hr2.from hk3
    refine ⟨_, _, run_endRound none hr3.lp, rfl, ⟨hI.putObj _ hi3 (by omega) hr3.lp rfl, hr3.put rec0⟩, hKt hp1 (hKt (hKt hp2 hp3) (hKb _ _ _ _ (by omega) hr3.lp rfl rfl))⟩
  · rintro e V2 ⟨⟨v, rfl⟩, xs, hS, hi, hr⟩
    exact ⟨none, _, run_endLoop hr.lp (by simp [rec0]), hdone _ xs _ (Nat.le_refl _) hS (hI.putObj _ hi (by omega) hr.lp rfl) ((World.putObj_heap_other (by omega)).trans hr.df)⟩
end
end Go.Proofs.YtphbcfpiklmmeaaGreatDoor

namespace Go.Proofs.YtphbcfpiklmmeaaGreatDoor
open Go Go.RowKit Go.Shelf

attribute [local go_sem] Oper.semAt_some
/-- What a round keeps: what lay below n₀, and four boxes. -/
def Kp4 (n₀ B1 B2 B3 B4 : Nat) (A B : World) : Prop := Below n₀ A B ∧ B.heap[B1]? = A.heap[B1]? ∧ B.heap[B2]? = A.heap[B2]? ∧ B.heap[B3]? = A.heap[B3]? ∧ B.heap[B4]? = A.heap[B4]?
theorem Kp4.refl (n₀ B1 B2 B3 B4 : Nat) (A : World) : Kp4 n₀ B1 B2 B3 B4 A A := ⟨Below.refl _ _, rfl, rfl, rfl, rfl⟩
theorem Kp4.trans {n₀ B1 B2 B3 B4 : Nat} {A B C : World} (h : Kp4 n₀ B1 B2 B3 B4 A B) (k : Kp4 n₀ B1 B2 B3 B4 B C) : Kp4 n₀ B1 B2 B3 B4 A C := ⟨h.1.trans k.1, k.2.1.trans h.2.1, k.2.2.1.trans h.2.2.1, k.2.2.2.1.trans h.2.2.2.1, k.2.2.2.2.trans h.2.2.2.2⟩
theorem Kp4.grown {n₀ B1 B2 B3 B4 : Nat} {A B : World} (hg : A.grownBy B none) (hn : n₀ ≤ A.heap.size) (h1 : B1 < A.heap.size) (h2 : B2 < A.heap.size) (h3 : B3 < A.heap.size) (h4 : B4 < A.heap.size) : Kp4 n₀ B1 B2 B3 B4 A B :=
  ⟨(below_grown hg).mono hn, hg.block _ h1 (by simp), hg.block _ h2 (by simp), hg.block _ h3 (by simp), hg.block _ h4 (by simp)⟩
theorem Kp4.b {n₀ B1 B2 B3 B4 : Nat} {w : World} (hn : n₀ ≤ w.heap.size) (h1 : B1 < w.heap.size) (h2 : B2 < w.heap.size) (h3 : B3 < w.heap.size) (h4 : B4 < w.heap.size) (W : World) (l : Nat) (o o' : Obj) (hl : w.heap.size ≤ l) (h : W.heap[l]? = some o) (k1 : o.isCells = false) (k2 : o.isWalk = false) : Kp4 n₀ B1 B2 B3 B4 W (W.putObj l o') := by
  have hlt := (Array.getElem?_eq_some_iff.1 h).1
  have hg := grownBy_putObj' W l o'
  exact ⟨belowK_b hn W l o o' hl h k1 k2, hg.block _ (by omega) (fun e => by injection e with e; omega), hg.block _ (by omega) (fun e => by injection e with e; omega), hg.block _ (by omega) (fun e => by injection e with e; omega), hg.block _ (by omega) (fun e => by injection e with e; omega)⟩
end Go.Proofs.YtphbcfpiklmmeaaGreatDoor

namespace Go.Proofs.YtphbcfpiklmmeaaGreatDoor
open Go Go.RowKit Go.Shelf

attribute [local go_sem] Oper.semAt_some
/-- The round of share: what it was begun with. -/
structure ShE where
  w : World
  W0 : World
  W : World
  q : Int
  p1 : Int
  p2 : Int
  p1' : Int
  p2' : Int
  B1 : Nat
  B2 : Nat
  C1 : Nat
  C2 : Nat
  C3 : Nat
  C4 : Nat
structure ShE.Ok (e : ShE) : Prop where
  b1 : e.w.heap.size < e.B1
  b2 : e.w.heap.size < e.B2
  b12 : e.B1 ≠ e.B2
  c1 : e.B1 < e.C1 ∧ e.B2 < e.C1 ∧ e.C1 < e.W0.heap.size
  c2 : e.B1 < e.C2 ∧ e.B2 < e.C2 ∧ e.C2 < e.W0.heap.size
  c3 : e.B1 < e.C3 ∧ e.B2 < e.C3 ∧ e.C3 < e.W0.heap.size
  c4 : e.B1 < e.C4 ∧ e.B2 < e.C4 ∧ e.C4 < e.W0.heap.size
/-- Where the world stands, by what was written. -/
structure ShE.At (e : ShE) (x y : Bool) (V : World) : Prop where
  q : Boxed V e.w.heap.size 22 (.int .u64 e.q)
  one : Boxed V e.B1 22 (.int .u64 (if x then e.p1' else e.p1))
  two : Boxed V e.B2 22 (.int .u64 (if y then e.p2' else e.p2))
  from' : KeepsFrom e.W0.heap.size e.W V
  kp : Kp4 e.w.heap.size e.C1 e.C2 e.C3 e.C4 e.W V
  bl : Below e.w.heap.size e.w V
  sz : e.W0.heap.size ≤ V.heap.size
theorem ShE.At.grown {e : ShE} (k : e.Ok) {x y : Bool} {V V' : World} (h : e.At x y V) (hg : V.grownBy V' none) : e.At x y V' := by
  have h1 := k.c1
  have h2 := k.c2
  have h3 := k.c3
  have h4 := k.c4
  have h5 := h.sz
  have h6 := k.b1
  exact ⟨h.q.kept hg (by simp), h.one.kept hg (by simp), h.two.kept hg (by simp), h.from'.trans ((keeps_none hg).from _), h.kp.trans (Kp4.grown hg (by omega) (by omega) (by omega) (by omega) (by omega)), h.bl.trans ((below_grown hg).mono (by omega)), Nat.le_trans h.sz hg.size⟩
/-- .. told by what was listed. -/
def ShE.C (e : ShE) (D : Array Bool) (V : World) : Prop := e.At (D.getD 8 false) (D.getD 9 false) V
theorem ShE.C.grown {e : ShE} (k : e.Ok) {D : Array Bool} {V V' : World} (h : e.C D V) (hg : V.grownBy V' none) (i : Nat) (h8 : i ≠ 8) (h9 : i ≠ 9) : e.C (D.setIfInBounds i true) V' := by
  unfold ShE.C
  rw [getD_set_ne false h8, getD_set_ne false h9]
  exact ShE.At.grown k h hg
theorem ShE.C.one {e : ShE} {D : Array Bool} {V : World} (h : e.C D V) (h8 : D.getD 8 false = false) : Boxed V e.B1 22 (.int .u64 e.p1) := by
  have := ShE.At.one h
  rw [h8] at this
  exact this
theorem ShE.C.two {e : ShE} {D : Array Bool} {V : World} (h : e.C D V) (h9 : D.getD 9 false = false) : Boxed V e.B2 22 (.int .u64 e.p2) := by
  have := ShE.At.two h
  rw [h9] at this
  exact this
end Go.Proofs.YtphbcfpiklmmeaaGreatDoor

namespace Go.Proofs.YtphbcfpiklmmeaaGreatDoor
open Go Go.RowKit Go.Shelf Go.Maps

/-- The numbers of a list, each once. -/
def seenL (l : List Int) : List Int := l.foldl (fun s x => bif s.contains x then s else s ++ [x]) []
theorem seenL_snoc (l : List Int) (x : Int) : seenL (l ++ [x]) = bif (seenL l).contains x then seenL l else seenL l ++ [x] := by simp only [seenL, List.foldl_append, List.foldl_cons, List.foldl_nil]
/-- A map of what was met. -/
def Met' (D : DataW Unit) (pre : List Int) : Prop := Maps.Tidy D ∧ Maps.size D = (seenL pre).length ∧ ∀ x, Maps.has D (.int .u64 x) = (seenL pre).contains x
theorem Met'.nil : Met' (.map []) [] := ⟨tidy_empty, rfl, fun _ => rfl⟩
theorem Met'.put {D : DataW Unit} {pre : List Int} (h : Met' D pre) (x : Int) (d : DataW Unit) : Met' (D.put (.int .u64 x) d) (pre ++ [x]) := by
  obtain ⟨h1, h2, h3⟩ := h
  have hk : WideAt.IsKeyLit (.int .u64 x) := trivial
  refine ⟨h1.put hk d, ?_, fun y => ?_⟩
  · rw [size_put h1, h3 x, seenL_snoc]
    cases (seenL pre).contains x
    · simp [h2]
    · simp [h2]
  · rw [seenL_snoc]
    by_cases e : y = x
    · subst e
      rw [has_put_same h1.isMap hk]
      cases hc : (seenL pre).contains y
      · simp
      · simp only [cond_true, hc]
    · rw [has_put_other (by intro e'; injection e' with _ e'; exact e e'), h3 y]
      cases (seenL pre).contains x
      · have e' : (y == x) = false := by simpa using e
        simp [e]
      · rfl
end Go.Proofs.YtphbcfpiklmmeaaGreatDoor

namespace Go.Proofs.YtphbcfpiklmmeaaGreatDoor
open Go Go.RowKit Go.Shelf

end Go.Proofs.YtphbcfpiklmmeaaGreatDoor

namespace Go.Proofs.YtphbcfpiklmmeaaGreatDoor
open Go Go.RowKit Go.Shelf

/-- Whether K and D are within their bounds. -/
def smallB (p : Par) : Bool := decide (0 ≤ p.K ∧ 0 ≤ p.D ∧ p.K ≤ 2 ∧ p.D ≤ 4)
end Go.Proofs.YtphbcfpiklmmeaaGreatDoor

namespace Go.Proofs.YtphbcfpiklmmeaaGreatDoor
open Go Go.RowKit Go.Shelf

end Go.Proofs.YtphbcfpiklmmeaaGreatDoor

namespace Go.Proofs.YtphbcfpiklmmeaaGreatDoor
open Go Go.RowKit Go.Shelf

end Go.Proofs.YtphbcfpiklmmeaaGreatDoor

namespace Go.Proofs.YtphbcfpiklmmeaaGreatDoor
open Go Go.RowKit Go.Shelf

end Go.Proofs.YtphbcfpiklmmeaaGreatDoor

namespace Go.Proofs.YtphbcfpiklmmeaaGreatDoor
open Go Go.RowKit

/-- A list of a column that is too short or too long. -/
def shortB (p : Par) (x : List Int) : Bool := !((x.length : Int) == wrap64 (p.T + 1))
end Go.Proofs.YtphbcfpiklmmeaaGreatDoor

namespace Go.Proofs.YtphbcfpiklmmeaaGreatDoor
open Go.RowKit

end Go.Proofs.YtphbcfpiklmmeaaGreatDoor

namespace Go.Proofs.YtphbcfpiklmmeaaGreatDoor
open Go Go.RowKit

end Go.Proofs.YtphbcfpiklmmeaaGreatDoor

namespace Go.Proofs.YtphbcfpiklmmeaaGreatDoor
open Go Go.RowKit

end Go.Proofs.YtphbcfpiklmmeaaGreatDoor

namespace Go.Proofs.YtphbcfpiklmmeaaGreatDoor
open Go Go.RowKit

theorem wrap64_small {n : Int} (h : -9223372036854775808 ≤ n ∧ n ≤ 9223372036854775807) : wrap64 n = n := by unfold wrap64; omega
theorem smallB_secrets {p : Par} (h : smallB p = true) : 0 ≤ secretsI p ∧ secretsI p ≤ 10 := by
  simp [smallB] at h
  obtain ⟨h1, h2, h3, h4⟩ := h
  have e1 : wrap64 (p.D + 1) = p.D + 1 := wrap64_small (by omega)
  have h5 : 0 ≤ p.K * (p.D + 1) := Int.mul_nonneg h1 (by omega)
  have h6 : p.K * (p.D + 1) ≤ 2 * 5 := Int.mul_le_mul h3 (by omega) (by omega) (by omega)
  have e2 : secretsI p = p.K * (p.D + 1) := by unfold secretsI; rw [e1]; exact wrap64_small (by omega)
  rw [e2]
  omega
end Go.Proofs.YtphbcfpiklmmeaaGreatDoor

namespace Go.Proofs.YtphbcfpiklmmeaaGreatDoor
open Go Go.RowKit

end Go.Proofs.YtphbcfpiklmmeaaGreatDoor

namespace Go.Proofs.YtphbcfpiklmmeaaGreatDoor
open Go Go.RowKit

end Go.Proofs.YtphbcfpiklmmeaaGreatDoor

namespace Go.Proofs.YtphbcfpiklmmeaaGreatDoor
open Go Go.RowKit

/-- A dealing that is not as long as it should be. -/
def badB (p : Par) (d : Int × List (List Int)) : Bool := !((d.2.length : Int) == secretsI p) || d.2.any (shortB p)
/-- Two lists built side by side: numbers, and lists of lists that lay there ahead. -/
structure Two (base : Nat) (wx : World) (v6 v7 : Value) (xs : List Int) (cs : List (List (List Int))) : Prop where
  fst : Acc encI base 3 (fun g => base ≤ g ∧ some g ≠ v7.ownBlock) wx v6 xs
  snd : Acc (encS (encS encU)) base 32 (fun g => g < base ∨ some g ≠ v6.ownBlock) wx v7 cs
theorem Two.kept {base : Nat} {wx w' : World} {v6 v7 : Value} {xs : List Int} {cs : List (List (List Int))} (h : Two base wx v6 v7 xs cs) (hg : wx.grownBy w' none) : Two base w' v6 v7 xs cs := ⟨h.fst.kept hg, h.snd.kept hg⟩
theorem Two.one {base : Nat} {wx w' : World} {v6 v7 v6' : Value} {xs xs' : List Int} {cs : List (List (List Int))} (h : Two base wx v6 v7 xs cs) (ha : Acc encI base 3 (fun g => base ≤ g ∧ some g ≠ v7.ownBlock) w' v6' xs') (hg : wx.grownBy w' v6.ownBlock) (hm : Moved wx v6 v6') : Two base w' v6' v7 xs' cs := by
  refine ⟨ha, ?_⟩
  have h1 : Acc (encS (encS encU)) base 32 (fun g => (g < base ∨ some g ≠ v6'.ownBlock) ∧ some g ≠ v6.ownBlock) wx v7 cs := h.snd.more fun g hg hx => by
    rcases hx with hx | hx
    · exact ⟨.inl hx, fun e => by have := (h.fst.lt g e.symm).1; omega⟩
    · exact ⟨.inr fun e => hm.ne hg (fun e' => hx e'.symm) e.symm, hx⟩
  exact (h1.keep hg fun g hx => hx.2).more fun g _ hx => hx.1
theorem Two.two {base : Nat} {wx w' : World} {v6 v7 v7' : Value} {xs : List Int} {cs cs' : List (List (List Int))} (h : Two base wx v6 v7 xs cs) (ha : Acc (encS (encS encU)) base 32 (fun g => g < base ∨ some g ≠ v6.ownBlock) w' v7' cs') (hg : wx.grownBy w' v7.ownBlock) (hm : Moved wx v7 v7') : Two base w' v6 v7' xs cs' := by
  refine ⟨?_, ha⟩
  have h1 : Acc encI base 3 (fun g => (base ≤ g ∧ some g ≠ v7'.ownBlock) ∧ some g ≠ v7.ownBlock) wx v6 xs := h.fst.more fun g hg hx => ⟨⟨hx.1, fun e => hm.ne hg (fun e' => hx.2 e'.symm) e.symm⟩, hx.2⟩
  exact (h1.keep hg fun g hx => hx.2).more fun g _ hx => hx.1
theorem Two.hZ {base : Nat} {wx : World} {v6 v7 : Value} {xs : List Int} {cs : List (List (List Int))} (h : Two base wx v6 v7 xs cs) {w' : World} : ∀ (c : List Value) (y : List (List Int)), (encS (encS encU)).rep (fun g => g < base) w' c y → (encS (encS encU)).rep (fun g => (g < base ∨ some g ≠ v6.ownBlock) ∧ some g ≠ v7.ownBlock) w' c y := fun c y hr => (encS (encS encU)).more hr fun g _ hx => ⟨.inl hx, fun e => by have := (h.snd.lt g e.symm).1; omega⟩
/-- The first j dealings are as long as they should be. -/
def OkTo (p : Par) (deals : List (Int × List (List Int))) (j : Nat) : Prop := ∀ i (h : i < deals.length), i < j → badB p deals[i] = false
theorem OkTo.all {p : Par} {deals : List (Int × List (List Int))} (h : OkTo p deals deals.length) : ∀ d ∈ deals, badB p d = false := fun d hd => by
  obtain ⟨i, hi, rfl⟩ := List.getElem_of_mem hd
  exact h i hi hi
theorem grown_two {w : World} {a b : Obj} : w.grownBy ((w.alloc a).alloc b) none := (World.grownBy_alloc w _ none).trans (World.grownBy_alloc _ _ none)
theorem Bk.one {w : World} {b : Nat} {t : TypeId} {u : Value} (h : Bk w b t #[u]) : ∀ j v, [u][j]? = some v → w.cell? ⟨b, j, none⟩ = some v := fun j v hv => by rw [h.cell j]; simpa using hv
section
variable {α : Type} {P : Program} {E : Enc α} {base : Nat} {e : TypeId} {X : Nat → Prop} {w : World} {v : Value} {xs : List α}
/-- append(out, y): the thing y lies in a block that is known. -/
theorem pushAt_core {cs : List Value} {y : α} {t : TypeId} {bytes b c : Nat} (hE : ElemOk P t e E.size bytes) (hacc : Acc E base e X w v xs) (hrep : E.rep (fun g => X g ∧ some g ≠ v.ownBlock) w cs y) (hcell : ∀ j u, cs[j]? = some u → w.cell? ⟨b, j, none⟩ = some u)
    (hlen : (xs.length + 1) * bytes ≤ 140737488355328) (hb : base ≤ w.heap.size) (hN : ∀ g, w.heap.size ≤ g → X g)
    {o : Oper} {a : Act} {K : Act → World → Prop} {Q : Exit → Act → World → Prop} (s x : Operand)
    (ho : o.op = .call { callee := .builtin .append, args := #[s, x], argTypes := #[t, t] }) (hs : a.eval s = v) (hx : a.eval x = .slice (some ⟨b, 0, none⟩) 1 c)
    (h : ∀ v' w', Acc E base e X w' v' (xs ++ [y]) → w.grownBy w' v.ownBlock → Moved w v v' → K (a.put o.dst v') w') : o.wp P a w K Q := by
  obtain ⟨_, css, h1, _, h3⟩ := id hacc
  have hcl := E.len hrep
  refine wp_app s x t ho (size := E.size) hE E.pos hs h3 (some ⟨b, 0, none⟩) 1 c cs hx (by rw [hcl, Nat.one_mul]) (by simp) ?_ (E.ones hrep) hlen hb ?_
  · intro ad e' j u hu
    injection e' with e'
    subst e'
    rw [← hcell j u hu]
    unfold Addr.add
    split
    · rename_i h0
      have : j = 0 := by simpa using h0
      subst this
      rfl
    · simp
  · intro v' w' hown hg hat
    have hat' : Moved w v v' := hat.imp id fun e => ⟨_, Nat.le_refl _, e⟩
    refine h v' w' (hacc.app (cs2 := [cs]) (ys := [y]) rfl (fun i hi hi' => ?_) (fun css' hc' => ?_) hg hat' hN) hg hat'
    · have : i = 0 := by simp at hi; omega
      subst this
      exact hrep
    · have e1 : css' = css.flatten := own_same hc' h3
      rw [e1]
      simpa using hown
end
end Go.Proofs.YtphbcfpiklmmeaaGreatDoor

namespace Go.Proofs.YtphbcfpiklmmeaaGreatDoor
open Go Go.RowKit

/-- A tape to which pa points (block g's, or nobody's): what its k-th draw below q is, and how it lies when k were made; bl: the blocks that it has. -/
structure TpP (pa : Option Addr) (g : Nat) (q : Int) (dr : Nat → Int) (TI : Nat → World → Prop) (bl : Nat → Prop) (most : Nat) : Prop where
  own : bl g
  old : ∀ {k w b}, TI k w → bl b → b < w.heap.size
  val : ∀ k, U64 (dr k)
  keep : ∀ {k w w'} {row : Option Nat}, TI k w → w.grownBy w' row → (∀ b, row = some b → ¬ bl b) → TI k w'
  next : ∀ {k w}, k < most → TI k w → Calls Tryz.prog 30 #[.pointer pa, .int .u64 q] w fun e w' => e = .returned (.int .u64 (dr k)) ∧ TI (k + 1) w' ∧ w.grownBy w' (some g)
abbrev Tp (g : Nat) := TpP (some ⟨g, 0, none⟩) g
theorem dsecrets_any (p : Par) (w : World) :
    Calls Tryz.prog 29 #[p.v] w fun e w' => e = .returned (.int .i64 (secretsI p)) ∧ w.grownBy w' none := by
  go_enter Tryz.func29, Tryz.ntmps29
  go_wp2
  go_ret
  exact ⟨rfl, World.grownBy_alloc w _ none⟩
theorem Acc.made1 (w : World) (e : TypeId) {B : Nat} (hB : B ≤ w.heap.size) (X : Nat → Prop) (hX : X w.heap.size) (z : Int) (hz : U64 z) : Acc encU B e X (w.alloc (.cells #[.int .u64 z] e)) (.slice (some ⟨w.heap.size, 0, none⟩) 1 1) [z] :=
  ⟨fun g hg => by simp [Value.ownBlock] at hg; subst hg; exact hX, [[.int .u64 z]], rfl, fun i hi hi' => by
    obtain rfl : i = 0 := by simp at hi; omega
    exact ⟨rfl, hz⟩, ⟨by simp [encU], .inr ⟨w.heap.size, 1, #[.int .u64 z], rfl, hB, heap_alloc_new w _, Nat.le_refl _, by decide, rfl, by simp [encU]⟩⟩⟩
/-- A number, modulo q, with n draws behind it, the first of them the k-th. -/
def behI (x q : Int) (dr : Nat → Int) (n k : Nat) : List Int := x % q :: (List.range n).map fun j => dr (k + j)
theorem behI_succ (x q : Int) (dr : Nat → Int) (n k : Nat) : behI x q dr (n + 1) k = behI x q dr n k ++ [dr (k + n)] := by
  simp [behI, List.range_succ]
theorem behI_len (x q : Int) (dr : Nat → Int) (n k : Nat) : (behI x q dr n k).length = n + 1 := by simp [behI]
set_option maxHeartbeats 1000000 in
theorem behind_any {pa : Option Addr} {g : Nat} {q : Int} {dr : Nat → Int} {TI : Nat → World → Prop} {bl : Nat → Prop} {most : Nat} (hT : TpP pa g q dr TI bl most) (x : Int) (n k : Nat) (w : World) (hx : U64 x) (hq : U64 q) (hq0 : 0 < q) (hn : n ≤ 1000) (hk : k + n ≤ most) (hI : TI k w) :
    Calls Tryz.prog 31 #[.int .u64 x, .int .i64 n, .int .u64 q, .func (.func 30) #[.pointer pa] #[]] w fun e w' => ∃ v, e = .returned v ∧ Sl encU (fun b => w.heap.size ≤ b) w' v (behI x q dr n k) ∧ TI (k + n) w' ∧ w.grownBy w' (some g) := by
  have HT := Lib.hid hT
  obtain ⟨q0, q1⟩ := hq
  obtain ⟨x0, x1⟩ := hx
  have hqz : (q == 0) = false := by simp; omega
  have hqz2 : ¬ q = 0 := by omega
  have hmod : Int.tmod x q = x % q := Int.tmod_eq_emod_of_nonneg x0
  obtain ⟨z, hz⟩ : ∃ y, y = x % q := ⟨_, rfl⟩
  have HZ : Hid (U64 z) := Lib.hid (by rw [hz]; exact ⟨Int.emod_nonneg _ (by omega), Int.lt_trans (Int.emod_lt_of_pos _ hq0) (by omega)⟩)
  have hzw : IntKind.u64.wrap z = z := IntWalk.u64_in _ (by have := HZ.out; obtain ⟨a, b⟩ := this; omega)
  have HGW : Hid (g < w.heap.size) := Lib.hid (hT.old hI hT.own)
  obtain ⟨w1, hw1⟩ : ∃ y, y = w.alloc (Obj.cells #[.int .u64 z] 22) := ⟨_, rfl⟩
  have HG1 : Hid (w.grownBy w1 none) := Lib.hid (by rw [hw1]; exact World.grownBy_alloc w _ none)
  have HA1 : Hid (Acc encU w.heap.size 22 (fun b => w.heap.size ≤ b) w1 (.slice (some ⟨w.heap.size, 0, none⟩) 1 1) (behI x q dr 0 k)) := Lib.hid (by
    rw [hw1, show behI x q dr 0 k = [z] by simp [behI, hz]]
    exact Acc.made1 w _ (Nat.le_refl _) _ (Nat.le_refl _) z HZ.out)
  have HI1 : Hid (TI k w1) := Lib.hid (hT.keep hI HG1.out (by simp))
  have HOB : Hid (∀ b, bl b → b < w.heap.size) := Lib.hid (fun b hb => hT.old hI hb)
  have e1 : x % q = z := hz.symm
  rw [e1] at hmod
  clear hT hI hz
  go_enter Tryz.func31, Tryz.ntmps31
  go_wp2_with fail
  rw [← hw1]
  clear hw1
  go_loopg [9, 15] n (fun gk s9 s15 wx => ∃ j : Nat, j + gk = n ∧ s15 = .int .i64 j ∧ Hid (Acc encU w.heap.size 22 (fun b => w.heap.size ≤ b) wx s9 (behI x q dr j k) ∧ TI (k + j) wx ∧ w.grownBy wx (some g)))
  case atStart => exact ⟨0, by omega, rfl, Lib.hid ⟨HA1.out, HI1.out, HG1.out.but _⟩⟩
  case round =>
    obtain ⟨j, hj, rfl, HX⟩ := hrel
    cases gk with
    | zero =>
      obtain rfl : j = n := by omega
      have HR : Hid (Sl encU (fun b => w.heap.size ≤ b) wr u9 (behI x q dr j k) ∧ TI (k + j) wr ∧ w.grownBy wr (some g)) := Lib.hid ⟨HX.out.1.sl, HX.out.2⟩
      have hno : ¬ ((j : Int) < (j : Int)) := by omega
      clear HX
      go_wp2
      go_ret
      exact ⟨_, rfl, HR.out⟩
    | succ m =>
      have hjn : (j : Int) < (n : Int) := by omega
      have HC := Lib.hid (HT.out.next (by omega) HX.out.2.1)
      have HA := Lib.hid HX.out.1
      have HG := Lib.hid HX.out.2.2
      have HV := Lib.hid (HT.out.val (k + j))
      have HSN := Lib.hid (behI_succ x q dr j k)
      have HLB : Hid (((behI x q dr j k).length + 1) * 8 ≤ 140737488355328) := Lib.hid (by rw [behI_len]; omega)
      obtain ⟨y, hy⟩ : ∃ y, y = dr (k + j) := ⟨_, rfl⟩
      rw [← hy] at HC HV HSN
      clear HX hy
      go_wp2_with fail
      refine HC.out.mono ?_
      rintro e w2 ⟨rfl, hi2, hg2⟩
      have HA2 := Lib.hid (HA.out.keep hg2 (fun b hb e => by injection e with e; have := HGW.out; omega))
      have HI2 := Lib.hid hi2
      have HG2 : Hid (w.grownBy w2 (some g)) := Lib.hid (HG.out.trans hg2)
      have HSZ : Hid (w.heap.size ≤ w2.heap.size) := Lib.hid HG2.out.size
      clear hi2 hg2
      go_wp2_with (at_builtin; refine wpList_push rfl (.tmp 17) (.tmp 21) rfl (E := encU) (y := y) el_u64 HA2.out rfl rfl ⟨rfl, HV.out⟩ HLB.out HSZ.out (fun _ h => Nat.le_trans HSZ.out h) ?_)
      intro v9 w3 ha hg hm
      have HFIN : Hid (Acc encU w.heap.size 22 (fun b => w.heap.size ≤ b) w3 v9 (behI x q dr (j + 1) k) ∧ TI (k + (j + 1)) w3 ∧ w.grownBy w3 (some g)) := Lib.hid ⟨by rw [HSN.out]; exact ha, HT.out.keep HI2.out hg (fun b e hb => by have := (HA2.out.lt b e).1; have := HOB.out b hb; omega), HG2.out.andThen hg (fun b e => .inl (HA2.out.lt b e).1)⟩
      clear ha hg hm
      go_wp2_with fail
      go_roundg m
      case measure => omega
      case rel => exact ⟨j + 1, by omega, by go_num, HFIN⟩
end Go.Proofs.YtphbcfpiklmmeaaGreatDoor

namespace Go.Proofs.YtphbcfpiklmmeaaGreatDoor
open Go Go.RowKit Go.Shelf

attribute [local go_sem] Oper.semAt_some
theorem Sl.cap {α : Type} {E : Enc α} {X : Nat → Prop} {w : World} {A : Option Addr} {n c : Nat} {xs : List α} (h : Sl E X w (.slice A n c) xs) (c' : Nat) (h1 : n ≤ c') (h2 : c' ≤ 9223372036854775807) : Sl E X w (.slice A n c') xs := by
  obtain ⟨A', c0, e, _, _, h3⟩ := h
  injection e with e1 e2 _
  subst e1 e2
  exact ⟨_, c', rfl, h1, h2, h3⟩
end Go.Proofs.YtphbcfpiklmmeaaGreatDoor

namespace Go.Proofs.YtphbcfpiklmmeaaGreatDoor
open Go

/-- Where the worlds stand when some late operations are over, these having told values; and what the k-th of them does to what lay there. -/
structure Lt where
  C : List Value → World → Prop
  R : Nat → World → World → Prop
  g : ∀ {vs w w'}, C vs w → w.grownBy w' none → C vs w'
/-- What is known of a value, and stands: as long as nothing is written, and through the late operations from the fr-th on. -/
structure Qv (L : Lt) where
  p : List Value → Value → World → Prop
  fr : Nat
  st : ∀ {vs v w w'}, p vs v w → w.grownBy w' none → p vs v w'
  sr : ∀ {vs u v w w'}, fr ≤ vs.length → L.C vs w → L.R vs.length w w' → p vs v w → p (vs ++ [u]) v w'
def Qv.any {L : Lt} : Qv L := ⟨fun _ _ _ => True, 0, fun _ _ => trivial, fun _ _ _ _ => trivial⟩
def Qv.eq {L : Lt} (u : Value) : Qv L := ⟨fun _ v _ => v = u, 0, fun h _ => h, fun _ _ _ h => h⟩
/-- What the q-th late operation has told. -/
def Qv.slot {L : Lt} (q : Nat) : Qv L := ⟨fun vs v _ => vs[q]? = some v, q + 1, fun h _ => h, fun _ _ _ h => by
  have := (List.getElem?_eq_some_iff.1 h).1
  rw [List.getElem?_append_left this]
  exact h⟩
section
variable {L : Lt} {late : List Nat} {P : Program} {ops : Array Oper} {Q : Exit → Act → World → Prop} {n : Nat} {a0 : Act} {w0 : World}

def ToldL (T : Value → World → Prop) (dst : Option Tmp) (ds : List Deferred) : Exit → Act → World → Prop := fun e a' w' => e = .normal ∧ a'.defers = ds ∧ T (match dst with | some d => a'.eval (.tmp d) | none => undef) w'
def Ask' (P : Program) (ops : Array Oper) (vs : List Value) (Vs : List (Qv L)) (Qt : Exit → Act → World → Prop) (o : Oper) (w : World) : List (Nat × Tmp) → Act → Prop
  | [], a => wpList P ops Qt [o] a w
  | (j, d) :: js, a => ∀ x, (Vs.getD j Qv.any).p vs x w → Ask' P ops vs Vs Qt o w js (a.put (some d) x)
/-- What is asked of one operation. -/
def AskL (L : Lt) (late : List Nat) (P : Program) (ops : Array Oper) (Vs : List (Qv L)) (ds : List Deferred) (i : Nat) (V : Qv L) (o : Oper) (js : List (Nat × Tmp)) (a0 : Act) : Prop :=
  (late.contains i = false ∧ V.fr = 0 ∧ ∀ vs w, L.C vs w → Ask' P ops vs Vs (ToldL (fun v w' => V.p vs v w' ∧ w.grownBy w' none) o.dst ds) o w js a0) ∨
  (∃ q, late[q]? = some i ∧ V = Qv.slot q ∧ ∀ vs w, vs.length = q → L.C vs w → Ask' P ops vs Vs (ToldL (fun v w' => L.R q w w' ∧ L.C (vs ++ [v]) w') o.dst ds) o w js a0)
def LateR (L : Lt) (late : List Nat) (P : Program) (ops : Array Oper) (n : Nat) (a0 : Act) (F : List (Qv L) → Prop) : Nat → List (Qv L) → List Oper → Prop
  | 0, Rs, _ => F Rs.reverse
  | _ + 1, _, [] => False
  | k + 1, Rs, o :: os => ∃ (V : Qv L) (js : List (Nat × Tmp)), (pairB ops Rs.length js && lookB ops n Rs.length js) = true ∧ AskL L late P ops Rs.reverse a0.defers Rs.length V o js a0 ∧ LateR L late P ops n a0 F k (V :: Rs) os
theorem LateR.mono {F : List (Qv L) → Prop} {k : Nat} {Rs : List (Qv L)} {o : Oper} {os : List Oper} (V : Qv L) (js : List (Nat × Tmp)) (hc : (pairB ops Rs.length js && lookB ops n Rs.length js) = true) (hl : late.contains Rs.length = false) (hf : V.fr = 0) (hA : ∀ vs w, L.C vs w → Ask' P ops vs Rs.reverse (ToldL (fun v w' => V.p vs v w' ∧ w.grownBy w' none) o.dst a0.defers) o w js a0) (h : LateR L late P ops n a0 F k (V :: Rs) os) : LateR L late P ops n a0 F (k + 1) Rs (o :: os) := ⟨V, js, hc, .inl ⟨hl, hf, hA⟩, h⟩
theorem LateR.turn {F : List (Qv L) → Prop} {k : Nat} {Rs : List (Qv L)} {o : Oper} {os : List Oper} (q : Nat) (js : List (Nat × Tmp)) (hc : (pairB ops Rs.length js && lookB ops n Rs.length js) = true) (hl : late[q]? = some Rs.length) (hA : ∀ vs w, vs.length = q → L.C vs w → Ask' P ops vs Rs.reverse (ToldL (fun v w' => L.R q w w' ∧ L.C (vs ++ [v]) w') o.dst a0.defers) o w js a0) (h : LateR L late P ops n a0 F k (Qv.slot q :: Rs) os) : LateR L late P ops n a0 F (k + 1) Rs (o :: os) := ⟨Qv.slot q, js, hc, .inr ⟨q, hl, rfl, hA⟩, h⟩
theorem LateR.out {F : List (Qv L) → Prop} : ∀ {k : Nat} {Rs : List (Qv L)} {os : List Oper}, LateR L late P ops n a0 F k Rs os → k ≤ os.length ∧ ∃ Ws : List (Qv L), Ws.length = k ∧ F (Rs.reverse ++ Ws) ∧ ∀ m o, m < k → os[m]? = some o → ∃ V js, Ws[m]? = some V ∧ (pairB ops (Rs.length + m) js && lookB ops n (Rs.length + m) js) = true ∧ AskL L late P ops ((Rs.reverse ++ Ws).take (Rs.length + m)) a0.defers (Rs.length + m) V o js a0
  | 0, Rs, os, h => ⟨Nat.zero_le _, [], rfl, by rw [List.append_nil]; exact h, fun m o hm => by omega⟩
  | _ + 1, _, [], h => h.elim
  | k + 1, Rs, o :: os, ⟨V, js, hb, hA, hM⟩ => by
    obtain ⟨hkl, Ws, hl, hF, hk⟩ := LateR.out hM
    refine ⟨by simpa using hkl, V :: Ws, by simp [hl], by simpa using hF, fun m o' hm ho => ?_⟩
    cases m with
    | zero =>
      obtain rfl : o = o' := by simpa using ho
      refine ⟨V, js, rfl, hb, ?_⟩
      have : (Rs.reverse ++ V :: Ws).take (Rs.length + 0) = Rs.reverse := by
        rw [Nat.add_zero, ← List.length_reverse]
        exact List.take_left
      rw [this]
      exact hA
    | succ m =>
      obtain ⟨V', js', h1, h2, h3⟩ := hk m o' (by omega) (by simpa using ho)
      refine ⟨V', js', by simpa using h1, ?_, ?_⟩
      · simpa [Nat.add_assoc, Nat.add_comm 1 m] using h2
      · simpa [Nat.add_assoc, Nat.add_comm 1 m] using h3
def FinL' (G : Act → World → Prop) (vs : List Value) (w : World) : List (Qv L) → List Oper → Act → Prop
  | V :: Vs, o :: os, a => ∀ x, V.p vs x w → FinL' G vs w Vs os (a.put o.dst x)
  | _, _, a => G a w
theorem FinL'.all {G : Act → World → Prop} {vs : List Value} {w : World} {b : Act} : ∀ {Vs : List (Qv L)} {os : List Oper} {a : Act}, Vs.length = os.length → (∀ (k : Nat) (V : Qv L) (o : Oper), Vs[k]? = some V → os[k]? = some o → V.p vs (match o.dst with | some d => b.eval (.tmp d) | none => undef) w) → FinL' G vs w Vs os a → G (onto b (os.map (·.dst)) a) w
  | [], [], _, _, _, h => h
  | V :: Vs, o :: os, a, hl, hx, h => FinL'.all (Vs := Vs) (os := os) (by simpa using hl) (fun k V o hv ho => hx (k + 1) V o (by simpa using hv) (by simpa using ho)) (h _ (hx 0 V o rfl rfl))
  | [], _ :: _, _, hl, _, _ => by simp at hl
  | _ :: _, [], _, hl, _, _ => by simp at hl
theorem Ask'.all {vs : List Value} {Vs : List (Qv L)} {Qt : Exit → Act → World → Prop} {o : Oper} {w : World} {b : Act} : ∀ {js : List (Nat × Tmp)} {a : Act}, (∀ x : Nat × Tmp, x ∈ js → (Vs.getD x.1 Qv.any).p vs (b.eval (.tmp x.2)) w) → Ask' P ops vs Vs Qt o w js a → wpList P ops Qt [o] (onto b (js.map fun x => some x.2) a) w
  | [], _, _, h => h
  | (j, d) :: js, a, hx, h => Ask'.all (js := js) (fun x hm => hx x (List.mem_cons_of_mem _ hm)) (h _ (hx (j, d) (by simp)))
/-- Which late operations are over: the first k. -/
def Cls (L : Lt) (late : List Nat) (vs : List Value) (D : Array Bool) (w : World) : Prop := vs.length ≤ late.length ∧ L.C vs w ∧ ∀ q i, late[q]? = some i → (D.getD i false = true ↔ q < vs.length)
structure LInv (L : Lt) (late : List Nat) (ops : Array Oper) (n : Nat) (a0 : Act) (Vs : List (Qv L)) (vs : List Value) (D : Array Bool) (a : Act) (w : World) : Prop where
  head : HeadInv .any ops n D
  cls : Cls L late vs D w
  tsize : a.tmps.size = a0.tmps.size
  defers : a.defers = a0.defers
  rest : ∀ t, (∀ j, j < n → D.getD j false = true → dstAt ops j ≠ some t) → a.tmps[t]? = a0.tmps[t]?
  known : ∀ j V, D.getD j false = true → Vs[j]? = some V → V.p vs (valOf (dstAt ops j) a) w
theorem toldL_letsOut {T : Value → World → Prop} {dst : Option Tmp} {ds : List Deferred} : ¬ LetsOut (ToldL T dst ds) := by
  rintro ⟨a, w', e, _⟩
  cases e
def chainB (ops : Array Oper) (late : List Nat) : Bool := (List.range (late.length - 1)).all fun q => Region.waitsFor .any ops (late.getD (q + 1) 0) (late.getD q 0)
def lateB (ops : Array Oper) (n : Nat) (late : List Nat) : Bool := late.all (fun i => decide (i < n)) && decide late.Nodup && chainB ops late
theorem toldL_op {T : Value → World → Prop} {o : Oper} {a b : Act} {w : World} (hs : ∀ cs b, o.op ≠ .select cs b) (hd : ∀ d, o.dst = some d → d < a.tmps.size) (hsz : b.tmps.size = a.tmps.size) (hlook : ∀ t ∈ o.looksAt ops, b.tmps[t]? = a.tmps[t]?) {i : Nat} (hi : ops[i]? = some o)
    (hdf : b.defers = a0.defers) (h : wpList P ops (ToldL T o.dst a0.defers) [o] b w) : wpOp P ops Q i (fun a' w' => ∃ v, a' = a.put o.dst v ∧ T (match o.dst with | some _ => v | none => undef) w') a w := by
  have hex : execOp b.eval o = execOp a.eval o := execOp_congr o hs fun x hx => by
    cases x with
    | tmp t => exact eval_of _ _ _ (hlook t (List.mem_append_left _ (List.mem_filterMap.2 ⟨.tmp t, by simpa using hx, rfl⟩)))
    | _ => rfl
  have hwn : Region.wanted o (yielded ops b.tmps) = Region.wanted o (yielded ops a.tmps) := by
    unfold Region.wanted
    cases hg : o.guard with
    | none => rfl
    | some gw =>
      obtain ⟨g, want⟩ := gw
      have hy : yielded ops b.tmps g = yielded ops a.tmps g := by
        unfold yielded
        cases ht : (ops[g]?).bind (·.dst) with
        | none => rfl
        | some t => simp only [Option.bind_some, hlook t (by simp [Oper.looksAt, hg, ht])]
      simp only [hy]
  have fin : ∀ v w', ToldL T o.dst a0.defers .normal (b.put o.dst v) w' → ∃ v', a.put o.dst v = a.put o.dst v' ∧ T (match o.dst with | some _ => v' | none => undef) w' := by
    rintro v w' ⟨_, _, h1⟩
    refine ⟨v, rfl, ?_⟩
    cases hdd : o.dst with
    | none => rw [hdd] at h1; exact h1
    | some d =>
      rw [hdd] at h1
      have hlt := hd d hdd
      have : (b.put (some d) v).eval (.tmp d) = v := by simp [Act.put, Act.eval, Array.getD_eq_getD_getElem?, hsz, hlt]
      simp only [this] at h1
      exact h1
  unfold wpOp
  simp only [hi]
  simp only [wpList, hwn] at h
  split
  · rename_i hw
    rw [if_pos hw] at h
    rcases h with h | h
    · left
      unfold Oper.wp at h ⊢
      rw [hex] at h
      generalize (execOp a.eval o).run P w = r at *
      cases r with
      | ok x w' =>
        cases x with
        | value v => exact fin v w' h
        | skip => exact fin undef w' h
        | enter f args =>
          refine Calls.mono h fun e w'' he => ?_
          cases e with
          | returned u => exact fin u w'' he
          | panicked c => exact absurd he.1 (by simp)
          | outgrown => exact absurd he toldL_letsOut
        | row row args => exact Rows.mono h fun u w'' he => fin u w'' he
        | defer d =>
          obtain ⟨_, h1, _⟩ := h
          have h1 : (Act.put { b with defers := d :: b.defers } o.dst undef).defers = a0.defers := h1
          rw [put_defers, ← hdf] at h1
          exact absurd (congrArg List.length h1) (by simp)
        | _ => exact h.elim
      | halt x w' =>
        cases x with
        | panic v => exact absurd h.1 (by simp)
        | _ => exact h.elim
    · exact absurd h.2 toldL_letsOut
  · rename_i hw
    rw [if_neg hw] at h
    exact fin undef w h
theorem linv_step {L : Lt} {late : List Nat} {vs vs2 : List Value} {Vs : List (Qv L)} {D : Array Bool} {a a' : Act} {w w' : World} {i : Nat} {o : Oper} {V : Qv L} {v : Value} (inv : LInv L late ops n a0 Vs vs D a w) (hd : distB ops n a0.tmps.size = true) (hi : i ∈ Region.ready .any ops D) (hin : i < n) (ho : ops[i]? = some o) (hV : Vs[i]? = some V) (hnl : Vs.length ≤ n)
    (ha : a' = a.put o.dst v) (hv : V.p vs2 (match o.dst with | some _ => v | none => undef) w') (hg : ∀ (W : Qv L) (j : Nat), D.getD j false = true → Vs[j]? = some W → ∀ {u : Value}, W.p vs u w → W.p vs2 u w') (hcl : Cls L late vs2 (D.setIfInBounds i true) w') : LInv L late ops n a0 Vs vs2 (D.setIfInBounds i true) a' w' := by
  subst ha
  have hdi : dstAt ops i = o.dst := by simp [dstAt, ho]
  have hun : D.getD i true = false := (mem_ready.1 hi).1
  have hlt : i < D.size := by
    rcases Nat.lt_or_ge i D.size with h' | h'
    · exact h'
    · simp [Array.getElem?_eq_none h'] at hun
  refine ⟨inv.head.set hi hin, hcl, (put_size _ _ _).trans inv.tsize, (put_defers _ _ _).trans inv.defers, fun t ht => ?_, fun j W hj hW => ?_⟩
  · have h1 : o.dst ≠ some t := fun e => ht i hin (by simp [hlt]) (hdi.trans e)
    refine Eq.trans ?_ (inv.rest t fun j hj hD => ht j hj (getD_set_true hD))
    cases hdd : o.dst with
    | none => rfl
    | some d => exact put_at _ _ _ _ (fun e => h1 (by rw [hdd, e]))
  · by_cases e : i = j
    · subst e
      obtain rfl : V = W := Option.some.inj (hV.symm.trans hW)
      rw [hdi]
      cases hdd : o.dst with
      | none => rw [hdd] at hv; exact hv
      | some d =>
        rw [hdd] at hv
        have hds := list_all_range hd hin
        rw [hdi, hdd] at hds
        simp only [Bool.and_eq_true, decide_eq_true_eq] at hds
        have : (a.put (some d) v).eval (.tmp d) = v := by simp [Act.put, Act.eval, Array.getD_eq_getD_getElem?, inv.tsize, hds.1]
        show V.p vs2 ((a.put (some d) v).eval (.tmp d)) w'
        rw [this]
        exact hv
    · have hjn : j < n := by have := (List.getElem?_eq_some_iff.1 hW).1; omega
      rw [getD_set_ne false e] at hj
      have h1 := hg W j hj hW (inv.known j W hj hW)
      cases hdj : dstAt ops j with
      | none => rw [hdj] at h1; exact h1
      | some dj =>
        rw [hdj] at h1
        have h1 : W.p vs2 (a.eval (.tmp dj)) w' := h1
        show W.p vs2 ((a.put o.dst v).eval (.tmp dj)) w'
        cases hdd : o.dst with
        | none => exact h1
        | some d =>
          have hds := list_all_range hd hin
          rw [hdi, hdd] at hds
          simp only [Bool.and_eq_true, decide_eq_true_eq] at hds
          have h2 := list_all_range hds.2 hjn
          simp only [Bool.or_eq_true, beq_iff_eq, bne_iff_ne, ne_eq] at h2
          have h3 : d ≠ dj := fun e' => (h2.resolve_left (fun e2 => e e2.symm)) (by rw [hdj, e'])
          rw [eval_of _ a dj (put_at a d dj v h3)]
          exact h1
/-- The law. -/
theorem wpAny_late {l : List Oper} (n : Nat) (hB : monoB l.toArray n a0.tmps.size = true) (hBl : lateB l.toArray n late = true) (hC0 : L.C [] w0)
    (h : LateR L late P l.toArray n a0 (fun Vs => ∀ vs w, vs.length = late.length → L.C vs w → FinL' (fun a w => wpList P l.toArray Q (l.drop n) a w) vs w Vs (l.take n) a0) n [] l) : wpAny P .any l.toArray Q l.toArray.size (Array.replicate l.toArray.size false) a0 w0 := by
  simp only [monoB, Bool.and_eq_true, decide_eq_true_eq] at hB
  obtain ⟨⟨⟨⟨hsel, hn⟩, htail⟩, htopo⟩, hdist⟩ := hB
  simp only [tailB, Bool.and_eq_true] at htail
  obtain ⟨hblk, hseq⟩ := htail
  simp only [lateB, Bool.and_eq_true, decide_eq_true_eq] at hBl
  obtain ⟨⟨hlt0, hnd⟩, hch⟩ := hBl
  have hlate : ∀ i ∈ late, i < n := fun i hi => by simpa using List.all_eq_true.1 hlt0 i hi
  have hchain : ∀ q, q + 1 < late.length → ∀ i, late[q + 1]? = some i → ∀ i', late[q]? = some i' → Region.waitsFor .any l.toArray i i' = true := fun q hq i h1 i' h2 => by
    have := list_all_range hch (show q < late.length - 1 by omega)
    rw [List.getD_eq_getElem?_getD, List.getD_eq_getElem?_getD, h1, h2] at this
    exact this
  obtain ⟨_, Vs, hVl, hF, hO⟩ := LateR.out h
  rw [List.reverse_nil, List.nil_append] at hF
  simp only [List.reverse_nil, List.nil_append, List.length_nil, Nat.zero_add] at hO
  have hnl : n ≤ l.length := by simpa using hn
  have htl : (l.take n).length = n := by simp; omega
  have hVn : Vs.length = n := hVl
  have hfr : ∀ j W, Vs[j]? = some W → (late.contains j = false ∧ W.fr = 0) ∨ ∃ q, late[q]? = some j ∧ W.fr ≤ q + 1 := fun j W hW => by
    have hj : j < n := by have := (List.getElem?_eq_some_iff.1 hW).1; omega
    obtain ⟨V, js, hV, _, hask⟩ := hO j l[j] hj (List.getElem?_eq_getElem (by omega))
    obtain rfl : V = W := Option.some.inj (hV.symm.trans hW)
    rcases hask with ⟨h1, h2, _⟩ | ⟨q, h1, h2, _⟩
    · exact .inl ⟨h1, h2⟩
    · exact .inr ⟨q, h1, by rw [h2]; exact Nat.le_refl _⟩
  have hdl : (l.drop n).length = l.toArray.size - n := by simp
  have hnext : ∀ i o, i < n → l.toArray[i]? = some o → (l.take n)[i]? = some o := fun i o hi ho => by
    rw [List.getElem?_take, if_pos hi]
    simpa using ho
  have key : ∀ m vs D a w, LInv L late l.toArray n a0 Vs vs D a w → cnt D n = m → wpAny P .any l.toArray Q (m + (l.toArray.size - n)) D a w := by
    intro m
    induction m with
    | zero =>
      intro vs D a w inv hc
      have hall := cnt_zero hc
      have hD : D = Array.replicate n true ++ Array.replicate (l.toArray.size - n) false := by
        have hsz := inv.head.size
        refine Array.ext (by simp [hsz]; omega) fun i h1 h2 => ?_
        rw [Array.getElem_append]
        by_cases hi : i < n
        · have := hall i hi
          simp [h1] at this
          simp [hi, this]
        · have := inv.head.tail i (by omega) (by omega)
          simp [h1] at this
          simp [hi, this]
      have hk : ∀ (k : Nat) (V : Qv L) (o : Oper), Vs[k]? = some V → (l.take n)[k]? = some o → V.p vs (match o.dst with | some d => a.eval (.tmp d) | none => undef) w := by
        intro k V o hv ho
        have hkn : k < n := by have := (List.getElem?_eq_some_iff.1 hv).1; omega
        have h1 := inv.known k V (hall k hkn) hv
        have h2 : dstAt l.toArray k = o.dst := by
          have : l[k]? = some o := by rw [List.getElem?_take, if_pos hkn] at ho; exact ho
          simp [dstAt, this]
        rw [h2] at h1
        have h3 : (match o.dst with | some d => a.eval (.tmp d) | none => undef) = valOf o.dst a := by cases o.dst <;> rfl
        rw [h3]
        exact h1
      have hcl : vs.length = late.length ∧ L.C vs w := by
        obtain ⟨hk0, hk1, hk2⟩ := inv.cls
        rcases Nat.lt_or_ge vs.length late.length with h | h
        case inr => exact ⟨by omega, hk1⟩
        · have h1 := (hk2 vs.length late[vs.length] (List.getElem?_eq_getElem h)).1 (hall _ (hlate _ (List.getElem_mem h)))
          omega
      have hfin := FinL'.all (hVl.trans htl.symm) hk (hF vs w hcl.1 hcl.2)
      have hon : onto a ((l.take n).map (·.dst)) a0 = a := by
        refine act_ext (fun t => onto_at a t _ _ inv.tsize.symm ?_) ((onto_defers _ _ _).trans inv.defers.symm)
        by_cases ht : some t ∈ (l.take n).map (·.dst)
        · exact .inl ht
        · refine .inr (inv.rest t fun j hj _ e => ht ?_).symm
          have hjl : j < l.length := by omega
          have : l[j].dst = some t := by simpa [dstAt, hjl] using e
          exact List.mem_map.2 ⟨l[j], List.mem_iff_getElem?.2 ⟨j, by rw [List.getElem?_take, if_pos hj, List.getElem?_eq_getElem hjl]⟩, this⟩
      rw [hon] at hfin
      have := wpAny_of_seq (md := .any) (Q' := Q) (l.drop n) n D a w (fun j => by simp [List.getElem?_drop]) (by rw [hdl, hD]; exact hseq) hfin
      rw [hdl] at this
      rwa [Nat.zero_add]
    | succ m ih =>
      intro vs D a w inv hc
      have hready : ∀ i ∈ Region.ready .any l.toArray D, i < n := by
        intro i hi
        rcases Nat.lt_or_ge i n with h' | h'
        · exact h'
        · obtain ⟨hu, oi, hoi, hall⟩ := mem_ready.1 hi
          have hlt : i < l.toArray.size := (Array.getElem?_eq_some_iff.1 hoi).1
          exfalso
          obtain ⟨k, hk, hkd⟩ : ∃ k, k < n ∧ D.getD k false = false := by
            refine Classical.byContradiction fun hno => ?_
            have : ∀ k, k ≤ n → cnt D k = 0 := by
              intro k
              induction k with
              | zero => intro _; rfl
              | succ k ihk =>
                intro hk
                have h1 : D.getD k false = true := by
                  refine Classical.byContradiction fun hx => hno ⟨k, by omega, by simpa using hx⟩
                simp only [cnt, h1, ihk (by omega)]
                rfl
            rw [this n (Nat.le_refl _)] at hc
            omega
          have hb := list_all_range hblk hlt
          simp only [Bool.or_eq_true, decide_eq_true_eq] at hb
          have hb := list_all_range (hb.resolve_left (by omega)) hk
          simp only [Bool.not_eq_true'] at hb
          have hik : i ≠ k := by omega
          have : av l.toArray k n i = true := by
            have hav := fun f j hj => av_of (ops := l.toArray) inv.head.closed inv.head.size hkd f j hj
            cases hn0 : n with
            | zero => simp [av, hik]
            | succ f =>
              simp only [av, hoi, Option.map_some, Option.getD_some, Bool.and_eq_true, bne_iff_ne]
              refine ⟨hik, ?_⟩
              rw [Array.all_eq_true_iff_forall_mem]
              intro e he
              by_cases hbd : Region.binds .any e = true
              · simp [hbd, hav f e.on (hall e he hbd)]
              · simp [hbd]
          rw [hb] at this
          cases this
      have hne : Region.ready .any l.toArray D ≠ [] := by
        have hex : ∃ k, k < n ∧ D.getD k false = false ∧ ∀ j, j < k → D.getD j false = true := by
          have : ∀ k, k ≤ n → (∃ q, q < k ∧ D.getD q false = false ∧ ∀ j, j < q → D.getD j false = true) ∨ (cnt D k = 0) := by
            intro k
            induction k with
            | zero => intro _; exact .inr rfl
            | succ k ihk =>
              intro hk
              rcases ihk (by omega) with ⟨q, h1, h2⟩ | h0
              · exact .inl ⟨q, by omega, h2⟩
              · cases hq : D.getD k false with
                | true => right; simp only [cnt, hq, h0]; rfl
                | false => exact .inl ⟨k, by omega, hq, cnt_zero h0⟩
          rcases this n (Nat.le_refl _) with ⟨q, h1, h2⟩ | h0
          · exact ⟨q, h1, h2⟩
          · omega
        obtain ⟨k, hk, hkd, hbel⟩ := hex
        have hkl : k < l.toArray.size := by omega
        have ho : l.toArray[k]? = some l.toArray[k] := Array.getElem?_eq_getElem hkl
        have : k ∈ Region.ready .any l.toArray D := by
          refine mem_ready.2 ⟨getD_in (by rw [inv.head.size]; exact hkl) hkd, _, ho, fun e he hb => hbel _ ?_⟩
          have ht := list_all_range htopo hk
          simp only [ho, Option.map_some, Option.getD_some] at ht
          have := Array.all_eq_true_iff_forall_mem.1 ht e he
          simpa [hb] using this
        intro e
        rw [e] at this
        cases this
      rw [show m + 1 + (l.toArray.size - n) = (m + (l.toArray.size - n)) + 1 by omega]
      refine ⟨fun e => absurd e hne, fun i hi => ?_⟩
      have hin := hready i hi
      obtain ⟨hu, o, ho, hall⟩ := mem_ready.1 hi
      obtain ⟨V, js, hV, hchk, hask⟩ := hO i o hin (by simpa using ho)
      simp only [Bool.and_eq_true] at hchk
      obtain ⟨hpair, hlook⟩ := hchk
      have hdst : ∀ d, o.dst = some d → d < a.tmps.size := by
        intro d hd
        have := list_all_range hdist hin
        have h2 : dstAt l.toArray i = some d := by simp only [dstAt, ho]; exact hd
        rw [h2] at this
        simp only [Bool.and_eq_true, decide_eq_true_eq] at this
        rw [inv.tsize]
        exact this.1
      have hjs : ∀ x : Nat × Tmp, x ∈ js → dstAt l.toArray x.1 = some x.2 ∧ D.getD x.1 false = true ∧ x.1 < i := by
        intro x hx
        have := List.all_eq_true.1 hpair x hx
        simp only [Bool.and_eq_true, beq_iff_eq] at this
        obtain ⟨oj, hoj, e, he, hb, hon⟩ := Region.waitsFor_spec this.2
        obtain rfl : o = oj := Option.some.inj (ho.symm.trans hoj)
        have ht := list_all_range htopo hin
        simp only [ho, Option.map_some, Option.getD_some] at ht
        have ht := Array.all_eq_true_iff_forall_mem.1 ht e he
        simp only [hb, Bool.not_true, Bool.false_or, decide_eq_true_eq] at ht
        exact ⟨this.1, by rw [← hon]; exact hall e he hb, by rw [← hon]; exact ht⟩
      have hget : ∀ x : Nat × Tmp, x ∈ js → ((Vs.take i).getD x.1 Qv.any).p vs (a.eval (.tmp x.2)) w := fun x hx => by
        obtain ⟨h1, h2, h3⟩ := hjs x hx
        have hxl : x.1 < Vs.length := by omega
        have h4 : Vs[x.1]? = some Vs[x.1] := List.getElem?_eq_getElem hxl
        have h5 := inv.known x.1 _ h2 h4
        rw [h1] at h5
        have : (Vs.take i).getD x.1 Qv.any = Vs[x.1] := by
          rw [List.getD_eq_getElem?_getD, List.getElem?_take, if_pos h3, h4]
          rfl
        rw [this]
        exact h5
      obtain ⟨hk0, hk1, hk2⟩ := inv.cls
      have hlk : ∀ t ∈ o.looksAt l.toArray, (onto a (js.map fun x => some x.2) a0).tmps[t]? = a.tmps[t]? := fun t ht => by
        refine onto_at a t _ _ inv.tsize.symm ?_
        have h1 : (o.looksAt l.toArray).all (fun t => js.any (·.2 == t) || keptB l.toArray n i t) = true := by
          simpa only [lookB, ho, Option.map_some, Option.getD_some] using hlook
        have h2 := List.all_eq_true.1 h1 t ht
        simp only [Bool.or_eq_true] at h2
        rcases h2 with h2 | h2
        · left
          obtain ⟨x, hx, hxt⟩ := List.any_eq_true.1 h2
          exact List.mem_map.2 ⟨x, hx, by rw [beq_iff_eq.1 hxt]⟩
        · right
          refine (inv.rest t fun j hj hD e => ?_).symm
          have h3 := list_all_range h2 hj
          simp only [Bool.or_eq_true, bne_iff_ne, ne_eq, beq_iff_eq] at h3
          rcases h3 with (h3 | h3) | h3
          · exact h3 e
          · obtain ⟨oj, hoj, e', he', hb', hon⟩ := Region.waitsFor_spec h3
            have := inv.head.closed j oj hoj hD e' he' hb'
            rw [hon, getD_both hu] at this
            cases this
          · subst h3
            rw [getD_both hu] at hD
            cases hD
      obtain ⟨T, hA, hS⟩ : ∃ T : Value → World → Prop, Ask' P l.toArray vs (Vs.take i) (ToldL T o.dst a0.defers) o w js a0 ∧ (∀ v w', T v w' → ∃ vs2, V.p vs2 v w' ∧ (∀ (W : Qv L) (j : Nat), D.getD j false = true → Vs[j]? = some W → ∀ {u : Value}, W.p vs u w → W.p vs2 u w') ∧ Cls L late vs2 (D.setIfInBounds i true) w') := by
        rcases hask with ⟨hnl', _, hA⟩ | ⟨q, hq, hVq, hA⟩
        · have hne : ∀ q i', late[q]? = some i' → i ≠ i' := fun q i' hq e => by
            subst e
            have := List.contains_iff_mem.2 (List.mem_of_getElem? hq)
            rw [hnl'] at this
            cases this
          exact ⟨_, hA vs w hk1, fun v w' hg => ⟨vs, hg.1, fun W j _ _ _ hp => W.st hp hg.2, hk0, L.g hk1 hg.2, fun q i' hq => by rw [getD_set_ne false (hne q i' hq)]; exact hk2 q i' hq⟩⟩
        · have hDi : D.getD i false = false := getD_both hu
          have h1 : ¬ q < vs.length := fun h => by have := (hk2 q i hq).2 h; rw [hDi] at this; cases this
          have h2 : q ≤ vs.length := by
            cases q with
            | zero => omega
            | succ q =>
              have hql : q < late.length := by have := (List.getElem?_eq_some_iff.1 hq).1; omega
              have hw := hchain q (by have := (List.getElem?_eq_some_iff.1 hq).1; omega) i hq late[q] (List.getElem?_eq_getElem hql)
              obtain ⟨oj, hoj, e, he, hb, hon⟩ := Region.waitsFor_spec hw
              obtain rfl : o = oj := Option.some.inj (ho.symm.trans hoj)
              have h3 := hall e he hb
              rw [hon] at h3
              have := (hk2 q _ (List.getElem?_eq_getElem hql)).1 h3
              omega
          obtain rfl : q = vs.length := by omega
          refine ⟨_, hA vs w rfl hk1, fun v w' hg => ⟨vs ++ [v], (by rw [hVq]; show (vs ++ [v])[vs.length]? = some v; simp), fun W j hj hW _ hp => W.sr ?_ hk1 hg.1 hp, by rw [List.length_append]; exact (List.getElem?_eq_some_iff.1 hq).1, hg.2, fun q' i' hq' => ?_⟩⟩
          · rcases hfr j W hW with ⟨_, h4⟩ | ⟨q', hq', h4⟩
            · rw [h4]; exact Nat.zero_le _
            · have := (hk2 q' j hq').1 hj
              omega
          · by_cases e : i = i'
            · subst e
              have hqq : q' = vs.length := by
                have h5 := (List.getElem?_eq_some_iff.1 hq').1
                skip
                exact (List.getElem?_inj h5 hnd).1 (hq'.trans hq.symm)
              have hlt : i < D.size := by
                rw [inv.head.size]
                exact (Array.getElem?_eq_some_iff.1 ho).1
              simp [hlt, hqq]
            · rw [getD_set_ne false e, hk2 q' i' hq']
              have : q' ≠ vs.length := fun e' => e (by rw [e', hq] at hq'; exact Option.some.inj hq')
              simp only [List.length_append, List.length_singleton]
              omega
      have hW := Ask'.all (b := a) hget hA
      have hop := toldL_op (Q := Q) (ops := l.toArray) (a0 := a0) (a := a) (Region.noSelect_spec hsel i o · · ho) hdst ((onto_size _ _ _).trans inv.tsize.symm) hlk ho (onto_defers _ _ _) hW
      refine wpOp_mono (fun a' w' hk => ?_) hop
      obtain ⟨v, ha, hT⟩ := hk
      obtain ⟨vs2, hv, hs, hcl⟩ := hS _ w' hT
      exact ih vs2 _ a' w' (linv_step inv hdist hi hin ho hV (by omega) ha hv hs hcl) (by have := (cnt_set (D := D) (i := i) n).2 hin hu; omega)
  have h0 := key n [] (Array.replicate l.toArray.size false) a0 w0 ⟨⟨by simp, (fun j oj _ hD => by rw [getD_replicate_false] at hD; cases hD), fun t _ ht => by simp only [List.size_toArray] at ht ⊢; simp [ht]⟩, ⟨Nat.zero_le _, hC0, fun q i hq => by rw [getD_replicate_false]; simp⟩, rfl, rfl, fun _ _ => rfl, (fun j V hD => by rw [getD_replicate_false] at hD; cases hD)⟩ (cnt_false _ n)
  rwa [show n + (l.toArray.size - n) = l.toArray.size by omega] at h0
/-- One operation that is carried out .. -/
theorem askl_do {T : Value → World → Prop} {ds : List Deferred} {o : Oper} {a : Act} {w : World} (hw : Region.wanted o (yielded ops a.tmps) = true)
    (h : ∀ K' : Act → World → Prop, (∀ a' w', a'.defers = ds → T (match o.dst with | some d => a'.eval (.tmp d) | none => undef) w' → K' a' w') → o.wp P a w K' (ToldL T o.dst ds)) : wpList P ops (ToldL T o.dst ds) [o] a w := by
  unfold wpList
  rw [if_pos hw]
  exact .inl (h _ fun a' w' h1 h2 => ⟨rfl, h1, h2⟩)
/-- What is behind them. -/
def FinL (P : Program) (ops : Array Oper) (Q : Exit → Act → World → Prop) (vs : List Value) (w : World) : List (Qv L) → List Oper → Act → Prop
  | V :: Vs, o :: os, a => ∀ x, V.p vs x w → FinL P ops Q vs w Vs os (a.put o.dst x)
  | _, os, a => wpList P ops Q os a w
theorem FinL.cut {vs : List Value} {w : World} : ∀ {Vs : List (Qv L)} {os : List Oper} {a : Act}, Vs.length ≤ os.length → FinL P ops Q vs w Vs os a → FinL' (fun a w => wpList P ops Q (os.drop Vs.length) a w) vs w Vs (os.take Vs.length) a
  | [], os, a, _, h => by
    have h : wpList P ops Q os a w := by cases os <;> exact h
    exact h
  | V :: Vs, [], a, hl, _ => by simp at hl
  | V :: Vs, o :: os, a, hl, h => fun x hx => FinL.cut (Vs := Vs) (os := os) (by simpa using hl) (h x hx)
theorem LateR.weak {F G : List (Qv L) → Prop} : ∀ {k : Nat} {Rs : List (Qv L)} {os : List Oper}, LateR L late P ops n a0 F k Rs os → (∀ Ws, Ws.length = Rs.length + k → F Ws → G Ws) → LateR L late P ops n a0 G k Rs os
  | 0, Rs, _, h, hg => hg _ (by simp) h
  | _ + 1, _, [], h, _ => h.elim
  | k + 1, Rs, o :: os, ⟨V, js, hb, hA, hM⟩, hg => ⟨V, js, hb, hA, LateR.weak hM fun Ws hW => hg Ws (by simp at hW ⊢; omega)⟩
theorem wpAny_lateR {l : List Oper} (n : Nat) (hB : monoB l.toArray n a0.tmps.size = true) (hBl : lateB l.toArray n late = true) (hC0 : L.C [] w0)
    (h : LateR L late P l.toArray n a0 (fun Vs => ∀ vs w, vs.length = late.length → L.C vs w → FinL P l.toArray Q vs w Vs l a0) n [] l) : wpAny P .any l.toArray Q l.toArray.size (Array.replicate l.toArray.size false) a0 w0 := by
  refine wpAny_late n hB hBl hC0 (LateR.weak h fun Ws hW hF vs w hvl hw => ?_)
  have hn := (LateR.out h).1
  have hl : Ws.length = n := by simpa using hW
  have := FinL.cut (by rw [hl]; exact hn) (hF vs w hvl hw)
  rwa [hl] at this
theorem wp_region_late {l : List Oper} {id : Nat} (L : Lt) (late : List Nat) (n : Nat) (hm : P.follows .mixedOrders = true) (hB : monoB l.toArray n a0.tmps.size = true) (hBl : lateB l.toArray n late = true) (hC0 : L.C [] w0.drew)
    (h : LateR L late P l.toArray n a0 (fun Vs => ∀ vs w, vs.length = late.length → L.C vs w → FinL P l.toArray Q vs w Vs l a0) n [] l) : (Code.region id l.toArray true).wp P Q a0 w0 :=
  wp_region_any hm (wpAny_lateR n hB hBl hC0 h)
end
end Go.Proofs.YtphbcfpiklmmeaaGreatDoor

namespace Go.Proofs.YtphbcfpiklmmeaaGreatDoor
open Go Go.RowKit Go.Shelf

attribute [local go_sem] Oper.semAt_some
/-- Two lists built side by side. -/
structure Side {α β : Type} (E : Enc α) (F : Enc β) (base : Nat) (e f : TypeId) (Z : Nat → Prop) (w : World) (v u : Value) (xs : List α) (ys : List β) : Prop where
  fst : Acc E base e (fun g => Z g ∧ some g ≠ u.ownBlock) w v xs
  snd : Acc F base f (fun g => Z g ∧ some g ≠ v.ownBlock) w u ys
section
variable {α β : Type} {E : Enc α} {F : Enc β} {base : Nat} {e f : TypeId} {Z : Nat → Prop} {w w' : World} {v u v' u' : Value} {xs xs' : List α} {ys ys' : List β}
theorem Side.kept (h : Side E F base e f Z w v u xs ys) (hg : w.grownBy w' none) : Side E F base e f Z w' v u xs ys := ⟨h.fst.kept hg, h.snd.kept hg⟩
theorem Side.swap (h : Side E F base e f Z w v u xs ys) : Side F E base f e Z w u v ys xs := ⟨h.snd, h.fst⟩
theorem Side.one (h : Side E F base e f Z w v u xs ys) (ha : Acc E base e (fun g => Z g ∧ some g ≠ u.ownBlock) w' v' xs') (hg : w.grownBy w' v.ownBlock) (hm : Moved w v v') : Side E F base e f Z w' v' u xs' ys := by
  refine ⟨ha, ?_⟩
  have h1 : Acc F base f (fun g => (Z g ∧ some g ≠ v'.ownBlock) ∧ some g ≠ v.ownBlock) w u ys := h.snd.more fun g hg hx => ⟨⟨hx.1, fun e => hm.ne hg (fun e' => hx.2 e'.symm) e.symm⟩, hx.2⟩
  exact (h1.keep hg fun g hx => hx.2).more fun g _ hx => hx.1
theorem Side.two (h : Side E F base e f Z w v u xs ys) (ha : Acc F base f (fun g => Z g ∧ some g ≠ v.ownBlock) w' u' ys') (hg : w.grownBy w' u.ownBlock) (hm : Moved w u u') : Side E F base e f Z w' v u' xs ys' := (h.swap.one ha hg hm).swap
theorem Side.new1 (h : Side E F base e f Z w v u xs ys) (hZ : ∀ g, w.heap.size ≤ g → Z g) : ∀ g, w.heap.size ≤ g → Z g ∧ some g ≠ u.ownBlock := fun g hg => ⟨hZ g hg, fun e => by have := (h.snd.lt g e.symm).2; omega⟩
theorem Side.new2 (h : Side E F base e f Z w v u xs ys) (hZ : ∀ g, w.heap.size ≤ g → Z g) : ∀ g, w.heap.size ≤ g → Z g ∧ some g ≠ v.ownBlock := fun g hg => ⟨hZ g hg, fun e => by have := (h.fst.lt g e.symm).2; omega⟩
end
theorem Side.keep {α β : Type} {E : Enc α} {F : Enc β} {base : Nat} {e f : TypeId} {Z : Nat → Prop} {w w' : World} {v u : Value} {xs : List α} {ys : List β} {row : Option Nat} (h : Side E F base e f Z w v u xs ys) (hg : w.grownBy w' row) (hZ : ∀ g, Z g → some g ≠ row) : Side E F base e f Z w' v u xs ys := ⟨h.fst.keep hg fun g hx => hZ g hx.1, h.snd.keep hg fun g hx => hZ g hx.1⟩
theorem Side.keepc {α β : Type} {E : Enc α} {F : Enc β} {base : Nat} {e f : TypeId} {Z : Nat → Prop} {w w' : World} {v u : Value} {xs : List α} {ys : List β} {row : Option Nat} (h : Side E F base e f Z w v u xs ys) (hg : w.grownBy w' row) (hr : ∀ r, row = some r → ∃ o : Obj, w.heap[r]? = some o ∧ o.isCells = false) : Side E F base e f Z w' v u xs ys := ⟨h.fst.keepc hg hr, h.snd.keepc hg hr⟩
theorem cellK {w w' : World} {g o : Nat} {u : Value} {row : Option Nat} (h : w.cell? ⟨g, o, none⟩ = some u) (hg : w.grownBy w' row) (hne : some g ≠ row) : w'.cell? ⟨g, o, none⟩ = some u := (World.cell?_of_block (w := w) (hg.block g (block_lt_of_cell h) hne)).trans h
/-- A slice of one thing in a block made since n. -/
def BlkQ (n : Nat) (t : TypeId) (u v : Value) (w : World) : Prop := ∃ b, v = .slice (some ⟨b, 0, none⟩) 1 1 ∧ n ≤ b ∧ Bk w b t #[u]
section
variable {base : Nat} {W wd w' w3 : World} {vW vB u v3 : Value} {g8 d : Nat} {bv : Int} {xsW : List (List Int)} {xsB : List Int} {yW : List Int}
end
theorem grownSet (w : World) (g o : Nat) (v : Value) : w.grownBy (w.setCell ⟨g, o, none⟩ v) (some g) := ⟨rfl, rfl, rfl, by simp [World.setCell], fun k _ hne => Below.heap_setCell w ⟨g, o, none⟩ v k (fun e => hne (by rw [e]))⟩
theorem Sl.shape {α : Type} {E : Enc α} {X : Nat → Prop} {w : World} {v : Value} {xs : List α} (h : Sl E X w v xs) : ∃ A n c, v = .slice A n c := by
  obtain ⟨A, c, e, _, _⟩ := h.form
  exact ⟨_, _, _, e⟩
end Go.Proofs.YtphbcfpiklmmeaaGreatDoor

namespace Go.Proofs.YtphbcfpiklmmeaaGreatDoor
open Go Go.RowKit

/-- A piece of numbers. -/
theorem Sl.piece {X : Nat → Prop} {w : World} {g o n c : Nat} {l : List Int} (h : Sl encU X w (.slice (some ⟨g, o, none⟩) n c) l) (a m : Nat) (hm : 0 < m) (ha : a + m ≤ l.length) : Sl encU X w (.slice (some ⟨g, o + a, none⟩) m m) ((l.drop a).take m) := by
  obtain ⟨A, c', e, h1, h2, h3⟩ := h
  injection e with e1 e2 e3
  subst e1 e3
  have hl : ((l.drop a).take m).length = m := by simp; omega
  obtain ⟨g', o', eA, lt, hX, hi⟩ := h3 (by intro e; rw [e] at ha; simp at ha; omega)
  injection eA with eA
  injection eA with eA1 eA2 _
  subst eA1 eA2
  refine ⟨_, m, by rw [hl], by rw [hl]; exact Nat.le_refl _, by omega, fun _ => ⟨g, o + a, rfl, lt, hX, fun i hi' => ?_⟩⟩
  have hi2 : i < m := by rw [hl] at hi'; exact hi'
  obtain ⟨cs, hr, hc⟩ := hi (a + i) (by omega)
  refine ⟨cs, ?_, fun j u hu => ?_⟩
  · have e : ((l.drop a).take m)[i] = l[a + i] := by simp
    rw [e]
    exact hr
  · have := hc j u hu
    rw [show o + a + i * encU.size + j = o + (a + i) * encU.size + j by show o + a + i * 1 + j = o + (a + i) * 1 + j; omega]
    exact this
/-- The pieces of a polynomial of two, of which the first j are laid. -/
def cellsT (gb ob t j : Nat) : List Value := (List.range t).map fun i => if i < j then .slice (some ⟨gb, ob + i * t, none⟩) t t else .slice none 0 0
theorem cellsT_set (gb ob t j : Nat) : (cellsT gb ob t j).set j (.slice (some ⟨gb, ob + j * t, none⟩) t t) = cellsT gb ob t (j + 1) := by
  refine List.ext_getElem (by simp [cellsT]) fun k h1 h2 => ?_
  rw [List.getElem_set]
  simp only [cellsT, List.getElem_map, List.getElem_range]
  split
  · rename_i e
    subst e
    rw [if_pos (by omega)]
  · rename_i e
    by_cases h : k < j
    · rw [if_pos h, if_pos (by omega)]
    · rw [if_neg h, if_neg (by omega)]
theorem pieces_sl {X : Nat → Prop} {w : World} {gb ob n c t Bo : Nat} {l : List Int} (h : Sl encU X w (.slice (some ⟨gb, ob, none⟩) n c) l) (ht : 0 < t) (ht2 : t ≤ 100) (hl : l.length = t * t) (hb : Bk w Bo 25 (cellsT gb ob t t).toArray) (hX : X Bo) : Sl (encS encU) X w (.slice (some ⟨Bo, 0, none⟩) t t) (chk t l t) := by
  have hlen : (chk t l t).length = t := chk_length _ _ _
  have := Sl.block (E := encS encU) (X := X) (xs := chk t l t) (c := t) hb hX ((cellsT gb ob t t).map fun v => [v]) (by simp [cellsT, hlen]) (fun i hi hi' => by
    have hit : i < t := by rw [hlen] at hi; exact hi
    have ha : i * t + t ≤ l.length := by
      rw [hl]
      have := Nat.mul_le_mul_right t (show i + 1 ≤ t from hit)
      rw [Nat.add_mul, Nat.one_mul] at this
      exact this
    have e1 : (chk t l t)[i] = (l.drop (i * t)).take t := by simp [chk]
    have e2 : ((cellsT gb ob t t).map fun v => [v])[i] = [.slice (some ⟨gb, ob + i * t, none⟩) t t] := by simp [cellsT, hit]
    rw [e1, e2]
    exact ⟨_, rfl, h.piece (i * t) t ht ha⟩) (by rw [flatten_singles]) (by rw [hlen]; exact Nat.le_refl _) (by omega)
  rwa [hlen] at this
set_option maxRecDepth 100000 in
set_option maxHeartbeats 4000000 in
theorem two2_any {pa : Option Addr} {g : Nat} {dr : Nat → Int} {TI : Nat → World → Prop} {bl : Nat → Prop} {most : Nat} (p : Par) (hT : TpP pa g p.Q dr TI bl most) (x : Int) (k : Nat) (w : World) (hx : U64 x) (hq : U64 p.Q) (hq0 : 0 < p.Q) (ht : p.T = 1) (hk : k + 3 ≤ most) (hI : TI k w) :
    Calls Tryz.prog 39 #[p.v, .int .u64 x, .func (.func 30) #[.pointer pa] #[]] w fun e w' => ∃ v, e = .returned v ∧ Sl (encS encU) (fun b => w.heap.size ≤ b) w' v (chk 2 (behI x p.Q dr 3 k) 2) ∧ TI (k + 3) w' ∧ w.grownBy w' (some g) := by
  obtain ⟨w0, hw0⟩ : ∃ y, y = w.alloc (Obj.cells p.cells 24) := ⟨_, rfl⟩
  have HG0 : Hid (w.grownBy w0 none) := Lib.hid (by rw [hw0]; exact World.grownBy_alloc w _ none)
  have HB0 : Hid (Bk w0 w.heap.size 24 p.cells) := Lib.hid (by rw [hw0]; exact Bk.new w _ _)
  have HI0 : Hid (TI k w0) := Lib.hid (hT.keep hI HG0.out (by simp))
  have HBH := Lib.hid (behind_any hT x 3 k w0 hx hq hq0 (by decide) hk HI0.out)
  have hp0 := HB0.out.prule
  have HT := Lib.hid hT
  have HOB : Hid (∀ b, bl b → b < w.heap.size) := Lib.hid (fun b hb => hT.old hI hb)
  have HGW : Hid (g < w.heap.size) := Lib.hid (hT.old hI hT.own)
  clear hT hI hx hq hq0
  go_enter Tryz.func39, Tryz.ntmps39
  go_wp2_with fail
  rw [← hw0]
  clear hw0
  go_wp2_with fail
  refine HBH.out.mono ?_
  rintro e w1 ⟨v8, rfl, hs1, hi1, hg1⟩
  obtain ⟨A8, c8, e8, hc8, hc8b⟩ := hs1.form
  rw [behI_len] at e8 hc8
  obtain ⟨gb, ob, c8', e8', hgb, hgb2, _, _⟩ := hs1.atU (k := 0) (by rw [behI_len]; decide)
  rw [e8] at e8'
  injection e8' with e81 e82 e83
  subst e81
  have e8 : v8 = .slice (some ⟨gb, ob, none⟩) 4 c8 := e8
  have hc8 : 4 ≤ c8 := hc8
  subst e8
  have HS1 := Lib.hid hs1
  have HI1 := Lib.hid hi1
  have HG1 : Hid (w.grownBy w1 (some g)) := Lib.hid ((HG0.out.but _).trans hg1)
  have HBB : Hid (w.heap.size ≤ gb ∧ gb < w1.heap.size) := Lib.hid ⟨Nat.le_trans HG0.out.size hgb2, hgb⟩
  have hmk := run_make_row' (P := Tryz.prog) 32 25 (.slice none 0 0) 24 Tryz.underlying32 info_nums rfl .i64 .i64 2 (by decide) (by decide) w1
  have hmk : (Instr.makeSlice 32 (.int .i64 2) (.int .i64 2)).run Tryz.prog w1 = .ok (.slice (some ⟨w1.heap.size, 0, none⟩) 2 2) (w1.alloc (.cells (madeCells #[.slice none 0 0] 2) 25)) := hmk
  obtain ⟨D0, hD0⟩ : ∃ y, y = w1.alloc (.cells (madeCells #[.slice none 0 0] 2) 25) := ⟨_, rfl⟩
  obtain ⟨Bo, hBo⟩ : ∃ y, y = w1.heap.size := ⟨_, rfl⟩
  have HGD : Hid (w1.grownBy D0 none) := Lib.hid (by rw [hD0]; exact World.grownBy_alloc _ _ none)
  have HBO : Hid (Bk D0 Bo 25 (cellsT gb ob 2 0).toArray) := Lib.hid (by
    rw [hD0, hBo]
    exact (Bk.new w1 25 (madeCells #[.slice none 0 0] 2)).of_eq (Array.toList_inj.1 (by rw [toList_madeCells_one]; rfl)))
  have HBS : Hid (Bo = w1.heap.size) := Lib.hid hBo
  have hp1 : ∀ o, w1.cell? ⟨w.heap.size, o, none⟩ = (#[.int .u64 p.P, .int .u64 p.Q, .int .u64 p.G, .int .u64 p.H, .int .i64 p.Nodes, .int .i64 p.N, .int .i64 p.T, .int .i64 p.K, .int .i64 p.D, .int .i64 p.R, .int .i64 p.M, .int .i64 p.X] : Array Value)[o]? := (HB0.out.grown hg1 (fun e => by injection e with e; have := HGW.out; omega)).prule
  clear hs1 hi1 hg1 hgb hgb2 e82 e83 hc8b
  go_upto_region 5 with (fail)
  rw [← hD0, ← hBo]
  clear hD0 hBo hmk hp1
  go_loopg [27] 2 (fun gk s27 wx => ∃ j : Nat, j + gk = 2 ∧ s27 = .int .i64 j ∧ Hid (Bk wx Bo 25 (cellsT gb ob 2 j).toArray ∧ D0.grownBy wx (some Bo)))
  case atStart => exact ⟨0, by omega, rfl, Lib.hid ⟨HBO.out, World.grownBy.refl _ _⟩⟩
  case round =>
    obtain ⟨j, hj, rfl, HX⟩ := hrel
    cases gk with
    | zero =>
      obtain rfl : j = 2 := by omega
      have hno : ¬ ((2 : Int) < 2) := by omega
      have HR : Hid (Sl (encS encU) (fun b => w.heap.size ≤ b) wr (.slice (some ⟨Bo, 0, none⟩) 2 2) (chk 2 (behI x p.Q dr 3 k) 2) ∧ TI (k + 3) wr ∧ w.grownBy wr (some g)) := Lib.hid (by
        have hs := ((HS1.out.bounded.kept HGD.out).keep HX.out.2 (fun b hb e => by injection e with e; have := HBS.out; have := hb.2; omega)).more (Y := fun b => w.heap.size ≤ b) fun b _ hb => Nat.le_trans HG0.out.size hb.1
        refine ⟨pieces_sl hs (by decide) (by decide) (by rw [behI_len]) HX.out.1 (by have := HBB.out; have := HBS.out; omega), HT.out.keep (HT.out.keep HI1.out HGD.out (by simp)) HX.out.2 (fun b e hb => by injection e with e; have := HOB.out b hb; have := HBB.out; have := HBS.out; omega), (HG1.out.trans (HGD.out.but _)).andThen HX.out.2 (fun b e => .inl (by injection e with e; have := HBB.out; have := HBS.out; omega))⟩)
      clear HX
      go_wp2
      go_ret
      exact ⟨_, rfl, HR.out⟩
    | succ m =>
      have hj2 : j < 2 := by omega
      have hjI : (j : Int) < 2 := by omega
      have hj0 : (0 : Int) ≤ (j : Int) := Int.natCast_nonneg j
      have hb := HX.out.1
      have c0 : wr.cell? ⟨Bo, j, none⟩ = some (.slice none 0 0) := by rw [hb.cell j]; simp [cellsT, hj2]
      have f0 := hb.free
      have HFIN : Hid (Bk (wr.setCell ⟨Bo, j, none⟩ (.slice (some ⟨gb, ob + j * 2, none⟩) ((j + 1) * 2 - j * 2) ((j + 1) * 2 - j * 2))) Bo 25 (cellsT gb ob 2 (j + 1)).toArray ∧ D0.grownBy (wr.setCell ⟨Bo, j, none⟩ (.slice (some ⟨gb, ob + j * 2, none⟩) ((j + 1) * 2 - j * 2) ((j + 1) * 2 - j * 2))) (some Bo)) := Lib.hid ⟨(hb.set j _).of_eq (by
        rw [show (j + 1) * 2 - j * 2 = 2 by omega, ← cellsT_set]
        simp), HX.out.2.trans (grownSet wr Bo _ _)⟩
      clear hb
      go_wp2_with fail
      go_roundg m
      case measure => omega
      case rel => exact ⟨j + 1, by omega, by go_num, HFIN⟩
set_option maxRecDepth 100000 in
set_option maxHeartbeats 4000000 in
theorem two3_any {pa : Option Addr} {g : Nat} {dr : Nat → Int} {TI : Nat → World → Prop} {bl : Nat → Prop} {most : Nat} (p : Par) (hT : TpP pa g p.Q dr TI bl most) (x : Int) (k : Nat) (w : World) (hx : U64 x) (hq : U64 p.Q) (hq0 : 0 < p.Q) (ht : p.T = 2) (hk : k + 8 ≤ most) (hI : TI k w) :
    Calls Tryz.prog 39 #[p.v, .int .u64 x, .func (.func 30) #[.pointer pa] #[]] w fun e w' => ∃ v, e = .returned v ∧ Sl (encS encU) (fun b => w.heap.size ≤ b) w' v (chk 3 (behI x p.Q dr 8 k) 3) ∧ TI (k + 8) w' ∧ w.grownBy w' (some g) := by
  obtain ⟨w0, hw0⟩ : ∃ y, y = w.alloc (Obj.cells p.cells 24) := ⟨_, rfl⟩
  have HG0 : Hid (w.grownBy w0 none) := Lib.hid (by rw [hw0]; exact World.grownBy_alloc w _ none)
  have HB0 : Hid (Bk w0 w.heap.size 24 p.cells) := Lib.hid (by rw [hw0]; exact Bk.new w _ _)
  have HI0 : Hid (TI k w0) := Lib.hid (hT.keep hI HG0.out (by simp))
  have HBH := Lib.hid (behind_any hT x 8 k w0 hx hq hq0 (by decide) hk HI0.out)
  have hp0 := HB0.out.prule
  have HT := Lib.hid hT
  have HOB : Hid (∀ b, bl b → b < w.heap.size) := Lib.hid (fun b hb => hT.old hI hb)
  have HGW : Hid (g < w.heap.size) := Lib.hid (hT.old hI hT.own)
  clear hT hI hx hq hq0
  go_enter Tryz.func39, Tryz.ntmps39
  go_wp2_with fail
  rw [← hw0]
  clear hw0
  go_wp2_with fail
  refine HBH.out.mono ?_
  rintro e w1 ⟨v8, rfl, hs1, hi1, hg1⟩
  obtain ⟨A8, c8, e8, hc8, hc8b⟩ := hs1.form
  rw [behI_len] at e8 hc8
  obtain ⟨gb, ob, c8', e8', hgb, hgb2, _, _⟩ := hs1.atU (k := 0) (by rw [behI_len]; decide)
  rw [e8] at e8'
  injection e8' with e81 e82 e83
  subst e81
  have e8 : v8 = .slice (some ⟨gb, ob, none⟩) 9 c8 := e8
  have hc8 : 9 ≤ c8 := hc8
  subst e8
  have HS1 := Lib.hid hs1
  have HI1 := Lib.hid hi1
  have HG1 : Hid (w.grownBy w1 (some g)) := Lib.hid ((HG0.out.but _).trans hg1)
  have HBB : Hid (w.heap.size ≤ gb ∧ gb < w1.heap.size) := Lib.hid ⟨Nat.le_trans HG0.out.size hgb2, hgb⟩
  have hmk := run_make_row' (P := Tryz.prog) 32 25 (.slice none 0 0) 24 Tryz.underlying32 info_nums rfl .i64 .i64 3 (by decide) (by decide) w1
  have hmk : (Instr.makeSlice 32 (.int .i64 3) (.int .i64 3)).run Tryz.prog w1 = .ok (.slice (some ⟨w1.heap.size, 0, none⟩) 3 3) (w1.alloc (.cells (madeCells #[.slice none 0 0] 3) 25)) := hmk
  obtain ⟨D0, hD0⟩ : ∃ y, y = w1.alloc (.cells (madeCells #[.slice none 0 0] 3) 25) := ⟨_, rfl⟩
  obtain ⟨Bo, hBo⟩ : ∃ y, y = w1.heap.size := ⟨_, rfl⟩
  have HGD : Hid (w1.grownBy D0 none) := Lib.hid (by rw [hD0]; exact World.grownBy_alloc _ _ none)
  have HBO : Hid (Bk D0 Bo 25 (cellsT gb ob 3 0).toArray) := Lib.hid (by
    rw [hD0, hBo]
    exact (Bk.new w1 25 (madeCells #[.slice none 0 0] 3)).of_eq (Array.toList_inj.1 (by rw [toList_madeCells_one]; rfl)))
  have HBS : Hid (Bo = w1.heap.size) := Lib.hid hBo
  have hp1 : ∀ o, w1.cell? ⟨w.heap.size, o, none⟩ = (#[.int .u64 p.P, .int .u64 p.Q, .int .u64 p.G, .int .u64 p.H, .int .i64 p.Nodes, .int .i64 p.N, .int .i64 p.T, .int .i64 p.K, .int .i64 p.D, .int .i64 p.R, .int .i64 p.M, .int .i64 p.X] : Array Value)[o]? := (HB0.out.grown hg1 (fun e => by injection e with e; have := HGW.out; omega)).prule
  clear hs1 hi1 hg1 hgb hgb2 e82 e83 hc8b
  go_upto_region 5 with (fail)
  rw [← hD0, ← hBo]
  clear hD0 hBo hmk hp1
  go_loopg [27] 3 (fun gk s27 wx => ∃ j : Nat, j + gk = 3 ∧ s27 = .int .i64 j ∧ Hid (Bk wx Bo 25 (cellsT gb ob 3 j).toArray ∧ D0.grownBy wx (some Bo)))
  case atStart => exact ⟨0, by omega, rfl, Lib.hid ⟨HBO.out, World.grownBy.refl _ _⟩⟩
  case round =>
    obtain ⟨j, hj, rfl, HX⟩ := hrel
    cases gk with
    | zero =>
      obtain rfl : j = 3 := by omega
      have hno : ¬ ((3 : Int) < 3) := by omega
      have HR : Hid (Sl (encS encU) (fun b => w.heap.size ≤ b) wr (.slice (some ⟨Bo, 0, none⟩) 3 3) (chk 3 (behI x p.Q dr 8 k) 3) ∧ TI (k + 8) wr ∧ w.grownBy wr (some g)) := Lib.hid (by
        have hs := ((HS1.out.bounded.kept HGD.out).keep HX.out.2 (fun b hb e => by injection e with e; have := HBS.out; have := hb.2; omega)).more (Y := fun b => w.heap.size ≤ b) fun b _ hb => Nat.le_trans HG0.out.size hb.1
        refine ⟨pieces_sl hs (by decide) (by decide) (by rw [behI_len]) HX.out.1 (by have := HBB.out; have := HBS.out; omega), HT.out.keep (HT.out.keep HI1.out HGD.out (by simp)) HX.out.2 (fun b e hb => by injection e with e; have := HOB.out b hb; have := HBB.out; have := HBS.out; omega), (HG1.out.trans (HGD.out.but _)).andThen HX.out.2 (fun b e => .inl (by injection e with e; have := HBB.out; have := HBS.out; omega))⟩)
      clear HX
      go_wp2
      go_ret
      exact ⟨_, rfl, HR.out⟩
    | succ m =>
      have hj2 : j < 3 := by omega
      have hjI : (j : Int) < 3 := by omega
      have hj0 : (0 : Int) ≤ (j : Int) := Int.natCast_nonneg j
      have hb := HX.out.1
      have c0 : wr.cell? ⟨Bo, j, none⟩ = some (.slice none 0 0) := by rw [hb.cell j]; simp [cellsT, hj2]
      have f0 := hb.free
      have HFIN : Hid (Bk (wr.setCell ⟨Bo, j, none⟩ (.slice (some ⟨gb, ob + j * 3, none⟩) ((j + 1) * 3 - j * 3) ((j + 1) * 3 - j * 3))) Bo 25 (cellsT gb ob 3 (j + 1)).toArray ∧ D0.grownBy (wr.setCell ⟨Bo, j, none⟩ (.slice (some ⟨gb, ob + j * 3, none⟩) ((j + 1) * 3 - j * 3) ((j + 1) * 3 - j * 3))) (some Bo)) := Lib.hid ⟨(hb.set j _).of_eq (by
        rw [show (j + 1) * 3 - j * 3 = 3 by omega, ← cellsT_set]
        simp), HX.out.2.trans (grownSet wr Bo _ _)⟩
      clear hb
      go_wp2_with fail
      go_roundg m
      case measure => omega
      case rel => exact ⟨j + 1, by omega, by go_num, HFIN⟩
end Go.Proofs.YtphbcfpiklmmeaaGreatDoor

namespace Go.Proofs.YtphbcfpiklmmeaaGreatDoor
open Go Go.RowKit

/-- Pairs, cell by cell. -/
def pcs (l : List (Int × Int)) : List Value := l.flatMap fun x => [.int .u64 x.1, .int .u64 x.2]
theorem pcs_cons (x : Int × Int) (l : List (Int × Int)) : pcs (x :: l) = .int .u64 x.1 :: .int .u64 x.2 :: pcs l := rfl
theorem pcs_get0 : ∀ (l : List (Int × Int)) (k : Nat) (h : k < l.length), (pcs l)[k * 2]? = some (.int .u64 l[k].1)
  | x :: l, 0, _ => rfl
  | x :: l, k + 1, h => by
    rw [pcs_cons, show (k + 1) * 2 = k * 2 + 1 + 1 by omega, List.getElem?_cons_succ, List.getElem?_cons_succ]
    exact pcs_get0 l k (by simpa using h)
theorem pcs_get1 : ∀ (l : List (Int × Int)) (k : Nat) (h : k < l.length), (pcs l)[k * 2 + 1]? = some (.int .u64 l[k].2)
  | x :: l, 0, _ => rfl
  | x :: l, k + 1, h => by
    rw [pcs_cons, show (k + 1) * 2 + 1 = k * 2 + 1 + 1 + 1 by omega, List.getElem?_cons_succ, List.getElem?_cons_succ]
    exact pcs_get1 l k (by simpa using h)
theorem pcs_set0 (a : Int) : ∀ (l : List (Int × Int)) (k : Nat) (h : k < l.length), (pcs l).set (k * 2) (.int .u64 a) = pcs (l.set k (a, l[k].2))
  | x :: l, 0, _ => rfl
  | x :: l, k + 1, h => by
    rw [pcs_cons, show (k + 1) * 2 = k * 2 + 1 + 1 by omega, List.set_cons_succ, List.set_cons_succ, pcs_set0 a l k (by simpa using h)]
    rfl
theorem pcs_set1 (a : Int) : ∀ (l : List (Int × Int)) (k : Nat) (h : k < l.length), (pcs l).set (k * 2 + 1) (.int .u64 a) = pcs (l.set k (l[k].1, a))
  | x :: l, 0, _ => rfl
  | x :: l, k + 1, h => by
    rw [pcs_cons, show (k + 1) * 2 + 1 = k * 2 + 1 + 1 + 1 by omega, List.set_cons_succ, List.set_cons_succ, pcs_set1 a l k (by simpa using h)]
    rfl
theorem pcs_rep : ∀ n : Nat, pcs (List.replicate n (0, 0)) = List.replicate (n * 2) (.int .u64 0)
  | 0 => rfl
  | n + 1 => by
    rw [List.replicate_succ, pcs_cons, pcs_rep n, show (n + 1) * 2 = n * 2 + 1 + 1 by omega, List.replicate_succ, List.replicate_succ]
theorem made_pairs (n : Nat) : (madeCells #[.int .u64 0, .int .u64 0] (n * 2)).toList = pcs (List.replicate n (0, 0)) := by
  rw [pcs_rep]
  refine List.ext_getElem (by simp [size_madeCells]) fun j h1 h2 => ?_
  have hj : j < n * 2 := by simpa using h2
  simp only [madeCells, Array.toList_map, List.getElem_map, List.getElem_replicate]
  simp
  have : j % 2 = 0 ∨ j % 2 = 1 := by omega
  rcases this with h | h <;> simp [h]
theorem sl_pcs' {X : Nat → Prop} {w : World} {g : Nat} {l : List (Int × Int)} (h : Bk w g 58 (pcs l).toArray) (hX : X g) (hu : ∀ x ∈ l, U64 x.1 ∧ U64 x.2) (hb : l.length ≤ 100000) : Sl encP X w (.slice (some ⟨g, 0, none⟩) l.length l.length) l := by
  refine Sl.block h hX (l.map fun x => [.int .u64 x.1, .int .u64 x.2]) (by simp) (fun i hi hi' => ?_) ?_ (Nat.le_refl _) (by omega)
  · simp only [List.getElem_map]
    exact ⟨rfl, hu _ (List.getElem_mem hi)⟩
  · simp [pcs, List.flatMap]
theorem make_pairs (n : Nat) (hn : n ≤ 100000) : ∀ w', (Instr.makeSlice 26 (.int .i64 (n : Int)) (.int .i64 (n : Int))).run Tryz.prog w' = .ok (.slice (some ⟨w'.heap.size, 0, none⟩) n n) (w'.alloc (.cells (madeCells #[.int .u64 0, .int .u64 0] (n * 2)) 58)) := fun w' => by
  obtain ⟨i, hi, hz⟩ := Option.map_eq_some_iff.1 info_pair
  simp only [Prod.mk.injEq] at hz
  obtain ⟨hz1, hz2, hz3⟩ := hz
  have hr := run_make (P := Tryz.prog) w' 26 58 i _ Tryz.underlying26 hi hz1 .i64 .i64 (n : Int) (n : Int) (by omega) (Int.le_refl _) (by rw [hz3]; omega) (by omega)
  rw [hz2, Int.toNat_natCast] at hr
  exact hr
end Go.Proofs.YtphbcfpiklmmeaaGreatDoor

namespace Go.Proofs.YtphbcfpiklmmeaaGreatDoor
open Go Go.RowKit

/-- Two lists, number by number; of which the first j are filled in. -/
def zipP (a b : List Int) (n : Nat) : List (Int × Int) := (List.range n).map fun k => (a[k]?.getD 0, b[k]?.getD 0)
def zipJ (a b : List Int) (n j : Nat) : List (Int × Int) := (List.range n).map fun k => if k < j then (a[k]?.getD 0, b[k]?.getD 0) else (0, 0)
theorem zipJ_len (a b : List Int) (n j : Nat) : (zipJ a b n j).length = n := by simp [zipJ]
theorem zipJ_zero (a b : List Int) (n : Nat) : zipJ a b n 0 = List.replicate n (0, 0) := by
  refine List.ext_getElem (by simp [zipJ]) fun j h1 h2 => ?_
  simp [zipJ]
theorem zipJ_all (a b : List Int) (n : Nat) : zipJ a b n n = zipP a b n := List.map_congr_left fun _ hk => if_pos (List.mem_range.1 hk)
theorem zipJ_set (a b : List Int) (n j : Nat) : (zipJ a b n j).set j (a[j]?.getD 0, b[j]?.getD 0) = zipJ a b n (j + 1) := by
  refine List.ext_getElem (by simp [zipJ]) fun k h1 h2 => ?_
  rw [List.getElem_set]
  simp only [zipJ, List.getElem_map, List.getElem_range]
  split
  · rename_i e
    subst e
    rw [if_pos (by omega)]
  · rename_i e
    by_cases h : k < j
    · rw [if_pos h, if_pos (by omega)]
    · rw [if_neg h, if_neg (by omega)]
set_option maxRecDepth 100000 in
set_option maxHeartbeats 2000000 in
theorem dpairs2_any (v1 v2 : Value) (a b : List Int) (n : Nat) (X Y : Nat → Prop) (w : World) (h1 : Sl encU X w v1 a) (h2 : Sl encU Y w v2 b) (ha : a.length = n) (hb : b.length = n) (hn : n ≤ 1000) :
    Calls Tryz.prog 41 #[v1, v2] w (Gives encP (fun g => w.heap.size ≤ g) w (zipP a b n)) := by
  have H1 := Lib.hid h1.bounded
  have H2 := Lib.hid h2.bounded
  obtain ⟨A1, c1, rfl, _, _⟩ := h1.form
  obtain ⟨A2, c2, rfl, _, _⟩ := h2.form
  have HA := Lib.hid ha
  have HB := Lib.hid hb
  rw [ha] at H1 ⊢
  rw [hb] at H2 ⊢
  have hmk := make_pairs n (by omega) w
  obtain ⟨D0, hD0⟩ : ∃ y, y = w.alloc (.cells (madeCells #[.int .u64 0, .int .u64 0] (n * 2)) 58) := ⟨_, rfl⟩
  obtain ⟨Bo, hBo⟩ : ∃ y, y = w.heap.size := ⟨_, rfl⟩
  have HGD : Hid (w.grownBy D0 none) := Lib.hid (by rw [hD0]; exact World.grownBy_alloc _ _ none)
  have HBO : Hid (Bk D0 Bo 58 (pcs (zipJ a b n 0)).toArray) := Lib.hid (by
    rw [hD0, hBo, zipJ_zero, ← made_pairs]
    exact Bk.new w _ _)
  have HX1 : Hid (∀ wx, D0.grownBy wx (some Bo) → Sl encU (fun g => g < Bo) wx (.slice A1 n c1) a) := Lib.hid (fun wx hg => ((H1.out.kept HGD.out).more (Y := fun g => g < Bo) fun g _ hx => by rw [hBo]; exact hx.2).keep hg (fun g hx e => by injection e with e; omega))
  have HX2 : Hid (∀ wx, D0.grownBy wx (some Bo) → Sl encU (fun g => g < Bo) wx (.slice A2 n c2) b) := Lib.hid (fun wx hg => ((H2.out.kept HGD.out).more (Y := fun g => g < Bo) fun g _ hx => by rw [hBo]; exact hx.2).keep hg (fun g hx e => by injection e with e; omega))
  have HUA : Hid (∀ k, U64 (a[k]?.getD 0) ∧ U64 (b[k]?.getD 0)) := Lib.hid (fun k => by
    have key : ∀ (l : List Int) (Z : Nat → Prop) (v : Value), Sl encU Z w v l → U64 (l[k]?.getD 0) := fun l Z v h => by
      rcases Nat.lt_or_ge k l.length with hk | hk
      · obtain ⟨_, _, _, _, _, _, _, u⟩ := h.atU hk
        rw [List.getElem?_eq_getElem hk]
        exact u
      · rw [List.getElem?_eq_none hk]
        exact ⟨by decide, by decide⟩
    exact ⟨key a X _ h1, key b Y _ h2⟩)
  have HBS : Hid (Bo = w.heap.size) := Lib.hid hBo
  clear h1 h2 ha hb
  go_enter Tryz.func41, Tryz.ntmps41
  go_upto_region 3 with (fail)
  rw [← hD0, ← hBo]
  clear hD0 hBo hmk
  go_loopg [12] n (fun g s12 wx => ∃ j : Nat, j + g = n ∧ s12 = .int .i64 j ∧ Hid (Bk wx Bo 58 (pcs (zipJ a b n j)).toArray ∧ D0.grownBy wx (some Bo)))
  case atStart => exact ⟨0, by omega, rfl, Lib.hid ⟨HBO.out, World.grownBy.refl _ _⟩⟩
  case round =>
    obtain ⟨j, hj, rfl, HX⟩ := hrel
    cases gk with
    | zero =>
      obtain rfl : j = n := by omega
      have hno : ¬ ((j : Int) < (j : Int)) := by omega
      have HR : Hid (Sl encP (fun g => w.heap.size ≤ g) wr (.slice (some ⟨Bo, 0, none⟩) j j) (zipP a b j) ∧ w.grownBy wr none) := Lib.hid ⟨by
        have hsl := sl_pcs' (X := fun g => w.heap.size ≤ g) HX.out.1 (by rw [HBS.out]; exact Nat.le_refl _) (fun x hx => by
          obtain ⟨k, _, rfl⟩ := List.mem_map.1 hx
          split
          · exact HUA.out k
          · exact ⟨⟨by decide, by decide⟩, ⟨by decide, by decide⟩⟩) (by rw [zipJ_len]; omega)
        rw [zipJ_len, zipJ_all] at hsl
        exact hsl, grown_up HGD.out HX.out.2 (fun g e => by injection e with e; rw [← e, HBS.out]; exact Nat.le_refl _)⟩
      clear HX
      go_wp2
      go_ret
      exact ⟨_, rfl, HR.out.1, HR.out.2⟩
    | succ m =>
      have hjn : (j : Int) < (n : Int) := by omega
      have hja : j < a.length := by rw [HA.out]; omega
      have hjb : j < b.length := by rw [HB.out]; omega
      have hj0 : (0 : Int) ≤ (j : Int) := Int.natCast_nonneg j
      obtain ⟨hbo, hgd⟩ := HX.out
      obtain ⟨g1, o1, c1', e1, hl1, hg1, hc1, hu1⟩ := (HX1.out _ hgd).atU hja
      injection e1 with e11 e12 e13
      subst e11 e13
      obtain ⟨g2, o2, c2', e2, hl2, hg2, hc2, hu2⟩ := (HX2.out _ hgd).atU hjb
      injection e2 with e21 e22 e23
      subst e21 e23
      have HZL : Hid (j < (zipJ a b n j).length) := Lib.hid (by rw [zipJ_len]; omega)
      have HAT : Hid (((pcs (zipJ a b n j)).set (j * 2) (.int .u64 a[j])).set (j * 2 + 1) (.int .u64 b[j]) = pcs (zipJ a b n (j + 1))) := Lib.hid (by
        have hs := zipJ_set a b n j
        rw [List.getElem?_eq_getElem hja, List.getElem?_eq_getElem hjb, Option.getD_some, Option.getD_some] at hs
        rw [pcs_set0 _ _ j HZL.out, pcs_set1 _ _ j (by simpa using HZL.out), List.set_set, ← hs]
        simp)
      obtain ⟨x, hx⟩ : ∃ y, y = a[j] := ⟨_, rfl⟩
      obtain ⟨y, hy⟩ : ∃ y, y = b[j] := ⟨_, rfl⟩
      rw [← hx] at hc1 hu1 HAT
      rw [← hy] at hc2 hu2 HAT
      have HDR : Hid (wr.grownBy wr.drew none) := Lib.hid (grown_drewN' _ 1)
      have HLD : Hid (∀ W, wr.drew.grownBy W none → W.cell? ⟨g1, o1 + j, none⟩ = some (.int .u64 x) ∧ W.cell? ⟨g2, o2 + j, none⟩ = some (.int .u64 y)) := Lib.hid (fun W hg => ⟨cell_kept hc1 (HDR.out.trans hg) (by simp), cell_kept hc2 (HDR.out.trans hg) (by simp)⟩)
      have HBK := Lib.hid hbo
      have HGK := Lib.hid hgd
      obtain ⟨p1, p2, HPP⟩ : ∃ p1 p2 : Int, Hid ((pcs (zipJ a b n j)).toArray[j * 2]? = some (.int .u64 p1) ∧ (pcs (zipJ a b n j)).toArray[j * 2 + 1]? = some (.int .u64 p2)) := ⟨_, _, Lib.hid ⟨by simpa using pcs_get0 _ j HZL.out, by simpa using pcs_get1 _ j HZL.out⟩⟩
      clear hbo hgd hc1 hc2 hl1 hl2 hg1 hg2 hu1 hu2 hx hy hja hjb e12 e22 HX
      go_upto_region 5 with (fail)
      refine wp_region_mono 12 (by kernel_rfl) (by kernel_rfl) ?_
      -- op 0 (slot 15): move
      refine MonoR.step (Pv.eq (.slice (some ⟨Bo, 0, none⟩) n n)) [] (by kernel_rfl) (fun w' hw' => ?_) ?_
      · refine ask_do rfl fun K hK => ?_
        go_simp
        exact hK _ _ rfl rfl (World.grownBy.refl _ none)
      -- op 1 (slot 16): move
      refine MonoR.step (Pv.eq (.int .i64 (j : Int))) [] (by kernel_rfl) (fun w' hw' => ?_) ?_
      · refine ask_do rfl fun K hK => ?_
        go_simp
        exact hK _ _ rfl rfl (World.grownBy.refl _ none)
      -- op 2 (slot 17): move
      refine MonoR.step (Pv.eq (.slice (some ⟨g1, o1, none⟩) n c1)) [] (by kernel_rfl) (fun w' hw' => ?_) ?_
      · refine ask_do rfl fun K hK => ?_
        go_simp
        exact hK _ _ rfl rfl (World.grownBy.refl _ none)
      -- op 3 (slot 18): move
      refine MonoR.step (Pv.eq (.int .i64 (j : Int))) [] (by kernel_rfl) (fun w' hw' => ?_) ?_
      · refine ask_do rfl fun K hK => ?_
        go_simp
        exact hK _ _ rfl rfl (World.grownBy.refl _ none)
      -- op 4 (slot 19): indexAddr
      refine MonoR.step (Pv.eq (.pointer (some ⟨g1, o1 + j, none⟩))) [(2, 17), (3, 18)] (by kernel_rfl) (fun w' hw' => ?_) ?_
      · rintro _ rfl
        rintro _ rfl
        refine ask_do rfl fun K hK => ?_
        go_simp
        exact hK _ _ rfl rfl (World.grownBy.refl _ none)
      -- op 5 (slot 20): load
      refine MonoR.step (Pv.eq (.int .u64 x)) [(4, 19)] (by kernel_rfl) (fun w' hw' => ?_) ?_
      · rintro _ rfl
        refine ask_do rfl fun K hK => ?_
        obtain ⟨q0, q1⟩ := HLD.out w' hw'
        go_simp
        exact hK _ _ rfl rfl (World.grownBy.refl _ none)
      -- op 6 (slot 21): move
      refine MonoR.step (Pv.eq (.slice (some ⟨g2, o2, none⟩) n c2)) [] (by kernel_rfl) (fun w' hw' => ?_) ?_
      · refine ask_do rfl fun K hK => ?_
        go_simp
        exact hK _ _ rfl rfl (World.grownBy.refl _ none)
      -- op 7 (slot 22): move
      refine MonoR.step (Pv.eq (.int .i64 (j : Int))) [] (by kernel_rfl) (fun w' hw' => ?_) ?_
      · refine ask_do rfl fun K hK => ?_
        go_simp
        exact hK _ _ rfl rfl (World.grownBy.refl _ none)
      -- op 8 (slot 23): indexAddr
      refine MonoR.step (Pv.eq (.pointer (some ⟨g2, o2 + j, none⟩))) [(6, 21), (7, 22)] (by kernel_rfl) (fun w' hw' => ?_) ?_
      · rintro _ rfl
        rintro _ rfl
        refine ask_do rfl fun K hK => ?_
        go_simp
        exact hK _ _ rfl rfl (World.grownBy.refl _ none)
      -- op 9 (slot 24): load
      refine MonoR.step (Pv.eq (.int .u64 y)) [(8, 23)] (by kernel_rfl) (fun w' hw' => ?_) ?_
      · rintro _ rfl
        refine ask_do rfl fun K hK => ?_
        obtain ⟨q0, q1⟩ := HLD.out w' hw'
        go_simp
        exact hK _ _ rfl rfl (World.grownBy.refl _ none)
      -- op 10 (slot 25): build
      refine MonoR.step (Pv.eq (.agg #[.int .u64 x, .int .u64 y])) [(5, 20), (9, 24)] (by kernel_rfl) (fun w' hw' => ?_) ?_
      · rintro _ rfl
        rintro _ rfl
        refine ask_do rfl fun K hK => ?_
        go_simp
        exact hK _ _ rfl rfl (World.grownBy.refl _ none)
      -- op 11 (slot 26): indexAddr
      refine MonoR.step (Pv.eq (.pointer (some ⟨Bo, j * 2, none⟩))) [(0, 15), (1, 16)] (by kernel_rfl) (fun w' hw' => ?_) ?_
      · rintro _ rfl
        rintro _ rfl
        refine ask_do rfl fun K hK => ?_
        go_simp
        exact hK _ _ rfl rfl (World.grownBy.refl _ none)
      
      intro w3 hw3
      intro y0 k0 y1 k1 y2 k2 y3 k3 y4 k4 y5 k5 y6 k6 y7 k7 y8 k8 y9 k9 y10 k10 y11 k11
      show wpList Tryz.prog _ _ _ _ w3
      simp only [Act.put, List.setIfInBounds_toArray, List.set_cons_zero, List.set_cons_succ]
      have e10 : y10 = .agg #[.int .u64 x, .int .u64 y] := k10
      have e11 : y11 = .pointer (some ⟨Bo, j * 2, none⟩) := k11
      subst e10 e11
      have hb3 : Bk w3 Bo 58 (pcs (zipJ a b n j)).toArray := HBK.out.grown (HDR.out.trans hw3) (by simp)
      have d0 : w3.cell? ⟨Bo, j * 2, none⟩ = some (.int .u64 p1) := by rw [hb3.cell]; exact HPP.out.1
      have d1 : w3.cell? ⟨Bo, j * 2 + 1, none⟩ = some (.int .u64 p2) := by rw [hb3.cell]; exact HPP.out.2
      have f3 := hb3.free
      have HFIN : Hid (Bk ((w3.setCell ⟨Bo, j * 2, none⟩ (.int .u64 x)).setCell ⟨Bo, j * 2 + 1, none⟩ (.int .u64 y)) Bo 58 (pcs (zipJ a b n (j + 1))).toArray ∧ D0.grownBy ((w3.setCell ⟨Bo, j * 2, none⟩ (.int .u64 x)).setCell ⟨Bo, j * 2 + 1, none⟩ (.int .u64 y)) (some Bo)) := Lib.hid ⟨((hb3.set (j * 2) (.int .u64 x)).set (j * 2 + 1) (.int .u64 y)).of_eq (by rw [← HAT.out]; simp), (HGK.out.trans ((HDR.out.trans hw3).but _)).trans ((grownSet w3 Bo _ _).trans (grownSet _ Bo _ _))⟩
      clear hw3 hb3 k0 k1 k2 k3 k4 k5 k6 k7 k8 k9 k10 k11 HLD
      go_wp2_with fail
      go_roundg m
      case measure => omega
      case rel => exact ⟨j + 1, by omega, by go_num, HFIN⟩
end Go.Proofs.YtphbcfpiklmmeaaGreatDoor

namespace Go.Proofs.YtphbcfpiklmmeaaGreatDoor
open Go Go.RowKit

theorem ret_i64 {a b : Int} (h : a = b) : Ending.returned (.int .i64 a) = .returned (.int .i64 b) := by rw [h]
/-- The value of a list of coefficients, the highest one first. -/
def evalGo (q x : Int) (l : List Int) (o : Int) : Int := l.foldl (fun o y => addI (mulI o x q) y q) o
def evalI (q : Int) (c : List Int) (x : Int) : Int := evalGo q x c.reverse 0
theorem evalGo_U64 (q x : Int) : ∀ (l : List Int) (o : Int), U64 o → U64 (evalGo q x l o)
  | [], _, h => h
  | _ :: l, _, _ => evalGo_U64 q x l _ (addI_U64 _ _ _)
theorem evalI_U64 (q : Int) (c : List Int) (x : Int) : U64 (evalI q c x) := evalGo_U64 q x _ _ ⟨by decide, by decide⟩
theorem evalGo_snoc (q x : Int) (l : List Int) (j : Nat) (h : j < l.length) (o : Int) : evalGo q x (l.take (j + 1)) o = addI (mulI (evalGo q x (l.take j) o) x q) l[j] q := by
  unfold evalGo
  rw [List.take_succ_eq_append_getElem h, List.foldl_append]
  rfl
theorem reverse_at (l : List Int) (j : Nat) (h : j < l.length) : l.reverse[j]'(by simpa using h) = l[l.length - 1 - j]'(by omega) := by simp
set_option maxRecDepth 100000 in
set_option maxHeartbeats 2000000 in
theorem eval_any (v : Value) (l : List Int) (x q : Int) (X : Nat → Prop) (w : World) (h : Sl encU X w v l) (hx : U64 x) :
    Calls Tryz.prog 32 #[v, .int .u64 x, .int .u64 q] w fun e w' => e = .returned (.int .u64 (evalI q l x)) ∧ w.grownBy w' none := by
  have H := Lib.hid h
  have HX := Lib.hid hx
  obtain ⟨A, c, rfl, hc1, hc2⟩ := h.form
  have HST : Hid (w.grownBy w none ∧ U64 0 ∧ (0 : Int) = evalGo q x (l.reverse.take 0) 0) := Lib.hid ⟨World.grownBy.refl w none, ⟨by decide, by decide⟩, rfl⟩
  clear h hx
  obtain ⟨n, hn⟩ : ∃ n, n = l.length := ⟨_, rfl⟩
  have HN := Lib.hid hn
  rw [← hn] at hc1 ⊢
  have hn9 : (n : Int) ≤ 9223372036854775807 := by omega
  clear hn
  go_enter Tryz.func32, Tryz.ntmps32
  go_wp2_with fail
  go_loopg [7, 11] n (fun g s7 s11 wx => ∃ (j : Nat) (o : Int), j + g = n ∧ s11 = .int .i64 j ∧ s7 = .int .u64 o ∧ Hid (w.grownBy wx none ∧ U64 o ∧ o = evalGo q x (l.reverse.take j) 0))
  case atStart => exact ⟨0, 0, by omega, rfl, rfl, HST⟩
  case round =>
    obtain ⟨j, o, hj, rfl, rfl, HR⟩ := hrel
    cases gk with
    | zero =>
      obtain rfl : j = n := by omega
      have HE : Hid (o = evalI q l x) := Lib.hid (by rw [HR.out.2.2, HN.out, evalI, List.take_of_length_le (by simp)])
      have HG := Lib.hid HR.out.1
      clear HR HST
      go_wp2
      go_ret
      exact ⟨ret_u64 HE.out, HG.out⟩
    | succ m =>
      have hjn : (j : Int) < (n : Int) := by omega
      have hjN : j < l.length := by rw [← HN.out]; omega
      obtain ⟨r, hr⟩ : ∃ r, r + j + 1 = n := ⟨m, by omega⟩
      have hrl : r < l.length := by rw [← HN.out]; omega
      obtain ⟨g, of, c', e, _, _, hcu, hu⟩ := (H.out.kept HR.out.1).atU hrl
      injection e with e1 e2 e3
      subst e1 e3
      have HGd : Hid (w.grownBy wr.drew none) := Lib.hid (grownBy_drewN HR.out.1 1)
      have HC0 := Lib.hid (fun (w' : World) (hw : wr.drew.grownBy w' none) => (H.out.kept (HGd.out.trans hw)).atU hrl)
      have HC : Hid (∀ w', wr.drew.grownBy w' none → w'.cell? ⟨g, of + r, none⟩ = some (.int .u64 l[r])) := Lib.hid (fun w' hw => by
        obtain ⟨g2, of2, c2, e2, _, _, h3, _⟩ := HC0.out w' hw
        injection e2 with e21 e22 e23
        injection e21 with e21
        injection e21 with e24 e25
        subst e24 e25
        exact h3)
      have HY := Lib.hid hu
      have HO := Lib.hid HR.out.2.1
      have HSN : Hid (addI (mulI o x q) l[r] q = evalGo q x (l.reverse.take (j + 1)) 0) := Lib.hid (by
        rw [evalGo_snoc q x l.reverse j (by simpa using hjN), reverse_at l j hjN, ← HR.out.2.2]
        congr 2
        have := HN.out
        omega)
      have e4 : IntKind.i64.wrap ((n : Int) - 1) = (n : Int) - 1 := IntWalk.i64_in _ (by omega)
      have e5 : IntKind.i64.wrap ((n : Int) - 1 - (j : Int)) = (r : Int) := by rw [IntWalk.i64_in _ (by omega)]; omega
      have hr0 : (0 : Int) ≤ (r : Int) := by omega
      have hrn : (r : Int) < (n : Int) := by omega
      clear hcu hu HC0 HR HST e2
      generalize l[r] = y at *
      go_wp2_with fail
      refine wp_region_mono 15 (by kernel_rfl) (by kernel_rfl) ?_
      -- op 0 (slot 14): move
      refine MonoR.step (Pv.eq (.int .u64 o)) [] (by kernel_rfl) (fun w' hw' => ?_) ?_
      · refine ask_do rfl fun K hK => ?_
        go_simp
        exact hK _ _ rfl rfl (World.grownBy.refl _ none)
      -- op 1 (slot 15): move
      refine MonoR.step (Pv.eq (.int .u64 x)) [] (by kernel_rfl) (fun w' hw' => ?_) ?_
      · refine ask_do rfl fun K hK => ?_
        go_simp
        exact hK _ _ rfl rfl (World.grownBy.refl _ none)
      -- op 2 (slot 16): move
      refine MonoR.step (Pv.eq (.int .u64 q)) [] (by kernel_rfl) (fun w' hw' => ?_) ?_
      · refine ask_do rfl fun K hK => ?_
        go_simp
        exact hK _ _ rfl rfl (World.grownBy.refl _ none)
      -- op 3 (slot 17): call
      refine MonoR.step (Pv.eq (.int .u64 (mulI o x q))) [(0, 14), (1, 15), (2, 16)] (by kernel_rfl) (fun w' hw' => ?_) ?_
      · rintro _ rfl
        rintro _ rfl
        rintro _ rfl
        refine ask_do rfl fun K hK => ?_
        go_simp
        refine (mul_gr o x q w' HO.out HX.out).mono ?_
        rintro e w3 ⟨rfl, hg⟩
        exact hK _ _ rfl rfl hg
      -- op 4 (slot 18): move
      refine MonoR.step (Pv.eq (.slice (some ⟨g, of, none⟩) n c)) [] (by kernel_rfl) (fun w' hw' => ?_) ?_
      · refine ask_do rfl fun K hK => ?_
        go_simp
        exact hK _ _ rfl rfl (World.grownBy.refl _ none)
      -- op 5 (slot 19): move
      refine MonoR.step (Pv.eq (.slice (some ⟨g, of, none⟩) n c)) [] (by kernel_rfl) (fun w' hw' => ?_) ?_
      · refine ask_do rfl fun K hK => ?_
        go_simp
        exact hK _ _ rfl rfl (World.grownBy.refl _ none)
      -- op 6 (slot 20): call
      refine MonoR.step (Pv.eq (.int .i64 (n : Int))) [(5, 19)] (by kernel_rfl) (fun w' hw' => ?_) ?_
      · rintro _ rfl
        refine ask_do rfl fun K hK => ?_
        go_simp
        exact hK _ _ rfl rfl (World.grownBy.refl _ none)
      -- op 7 (slot 21): binOp
      refine MonoR.step (Pv.eq (.int .i64 ((n : Int) - 1))) [(6, 20)] (by kernel_rfl) (fun w' hw' => ?_) ?_
      · rintro _ rfl
        refine ask_do rfl fun K hK => ?_
        go_simp
        exact hK _ _ rfl rfl (World.grownBy.refl _ none)
      -- op 8 (slot 22): move
      refine MonoR.step (Pv.eq (.int .i64 (j : Int))) [] (by kernel_rfl) (fun w' hw' => ?_) ?_
      · refine ask_do rfl fun K hK => ?_
        go_simp
        exact hK _ _ rfl rfl (World.grownBy.refl _ none)
      -- op 9 (slot 23): binOp
      refine MonoR.step (Pv.eq (.int .i64 (r : Int))) [(7, 21), (8, 22)] (by kernel_rfl) (fun w' hw' => ?_) ?_
      · rintro _ rfl
        rintro _ rfl
        refine ask_do rfl fun K hK => ?_
        go_simp
        exact hK _ _ rfl rfl (World.grownBy.refl _ none)
      -- op 10 (slot 24): indexAddr
      refine MonoR.step (Pv.eq (.pointer (some ⟨g, of + r, none⟩))) [(4, 18), (9, 23)] (by kernel_rfl) (fun w' hw' => ?_) ?_
      · rintro _ rfl
        rintro _ rfl
        refine ask_do rfl fun K hK => ?_
        go_simp
        exact hK _ _ rfl rfl (World.grownBy.refl _ none)
      -- op 11 (slot 25): load
      refine MonoR.step (Pv.eq (.int .u64 y)) [(10, 24)] (by kernel_rfl) (fun w' hw' => ?_) ?_
      · rintro _ rfl
        refine ask_do rfl fun K hK => ?_
        have hc := HC.out w' hw'
        go_simp
        exact hK _ _ rfl rfl (World.grownBy.refl _ none)
      -- op 12 (slot 26): move
      refine MonoR.step (Pv.eq (.int .u64 q)) [] (by kernel_rfl) (fun w' hw' => ?_) ?_
      · refine ask_do rfl fun K hK => ?_
        go_simp
        exact hK _ _ rfl rfl (World.grownBy.refl _ none)
      -- op 13 (slot 27): call
      refine MonoR.step (Pv.eq (.int .u64 (addI (mulI o x q) y q))) [(3, 17), (11, 25), (12, 26)] (by kernel_rfl) (fun w' hw' => ?_) ?_
      · rintro _ rfl
        rintro _ rfl
        rintro _ rfl
        refine ask_do rfl fun K hK => ?_
        go_simp
        refine (add_gr (mulI o x q) y q w' (mulI_U64 _ _ _) HY.out).mono ?_
        rintro e w3 ⟨rfl, hg⟩
        exact hK _ _ rfl rfl hg
      -- op 14 (slot 7): assign
      refine MonoR.step (Pv.eq (.int .u64 (addI (mulI o x q) y q))) [(13, 27)] (by kernel_rfl) (fun w' hw' => ?_) ?_
      · rintro _ rfl
        refine ask_do rfl fun K hK => ?_
        go_simp
        exact hK _ _ rfl rfl (World.grownBy.refl _ none)
      intro w3 hw3
      iterate 14 (intro _ _)
      rintro _ rfl
      have HE : Hid (w.grownBy w3 none ∧ U64 (addI (mulI o x q) y q) ∧ addI (mulI o x q) y q = evalGo q x (l.reverse.take (j + 1)) 0) := Lib.hid ⟨HGd.out.trans hw3, addI_U64 _ _ _, HSN.out⟩
      clear hw3 e4 e5
      refine wpList_nil ?_
      simp only [Act.put, List.setIfInBounds_toArray, List.set_cons_zero, List.set_cons_succ]
      go_wp2_with fail
      go_roundg m
      case measure => omega
      case rel => exact ⟨j + 1, _, by omega, by go_num, rfl, HE⟩
set_option maxHeartbeats 400000 in
theorem wide_any (v : Value) (l : List (List Int)) (X : Nat → Prop) (w : World) (h : Sl (encS encU) X w v l) (hb2 : ∀ c ∈ l, c.length ≤ 100000) :
    Calls Tryz.prog 100 #[v] w fun e w' => e = .returned (.int .i64 (wideI l : Nat)) ∧ w' = w := by
  have H := Lib.hid h
  have HB2 := Lib.hid hb2
  obtain ⟨A, c, rfl, hc1, hc2⟩ := h.form
  have HN0 : Hid (0 = wideI (l.take 0)) := Lib.hid rfl
  clear h hb2
  go_enter Tryz.func100, Tryz.ntmps100
  go_wp2_with fail
  go_loopg [3, 8] l.length (fun g s3 s8 wx => ∃ j n : Nat, j + g = l.length ∧ s8 = .int .i64 j ∧ s3 = .int .i64 n ∧ Hid (n = wideI (l.take j)) ∧ Hid (wx = w))
  case atStart => exact ⟨0, 0, by omega, rfl, rfl, HN0, Lib.hid rfl⟩
  case round =>
    obtain ⟨j, n, hj, rfl, rfl, HN, HX⟩ := hrel
    obtain rfl : wr = w := HX.out
    cases gk with
    | zero =>
      obtain rfl : j = l.length := by omega
      have HNW : Hid (n = wideI l) := Lib.hid (by have := HN.out; rwa [List.take_length] at this)
      clear HX HN
      go_wp2
      go_ret
      exact ⟨ret_i64 (by rw [HNW.out]), rfl⟩
    | succ m =>
      have hjn : (j : Int) < (l.length : Int) := by omega
      have hjN : j < l.length := by omega
      obtain ⟨g, o, c', u, e, _, _, hcu, hsu⟩ := H.out.atS hjN
      injection e with e1 e2 e3
      subst e1 e3
      obtain ⟨A1, c1, e1, _, _⟩ := hsu.form
      subst e1
      have HSN : Hid (wideI (l.take (j + 1)) = max n l[j].length) := Lib.hid (by rw [wide_snoc l j hjN, HN.out])
      have hnb : n ≤ 100000 := by rw [HN.out]; exact wide_le _ _ (fun c hc => HB2.out c (List.mem_of_mem_take hc))
      have hlb : l[j].length ≤ 100000 := HB2.out _ (List.getElem_mem hjN)
      clear hsu e2 HN
      generalize l[j].length = n1 at *
      go_wp2_with fail
      all_goals
        go_roundg m
        case measure => omega
        case rel => exact ⟨j + 1, max n n1, by omega, by go_num, by congr 1; omega, Lib.hid HSN.out.symm, Lib.hid rfl⟩
end Go.Proofs.YtphbcfpiklmmeaaGreatDoor
