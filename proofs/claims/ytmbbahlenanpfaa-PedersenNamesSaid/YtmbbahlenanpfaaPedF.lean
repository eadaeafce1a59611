/- pedersen.Coms, walked: a range over a function within a range over a function. -/
import Derived.Test.YtmbbahlenanpfaaPedE
namespace Go.Proofs.Ytmbbahlenanpfaa
open Go Go.RowKit Go.Shelf

attribute [local go_sem] Oper.semAt_some
theorem wpIn_round_any {P : Program} {ops : Array Oper} {R : Act → World → Prop} {Q : Exit → Act → World → Prop} {l0 n id : Nat} {a : Act} {w : World} (hm : P.follows .mixedOrders = true) (hdf : noDefer ops = true) (hR : ∀ a w, R a w → Q .normal a w)
    (h : wpAny P .any ops (Only R) ops.size (Array.replicate ops.size false) a w.drew) : (Code.region id ops true).wpIn (Fence.wide.inRound l0) n P Q a w :=
  wpIn_region_any hm (wpAnyIn_of_any (noDefer_spec hdf) hR _ _ _ _ h)
def comI (p : Par) (x : List Int × List Int) : List Int := (zipU x.1 x.2).map (commitI p)
def comsI (p : Par) (f r : List (List Int)) : List (List Int) := (zipS f r).map (comI p)
abbrev small1 (c : List Int) : Prop := c.length ≤ 100000
theorem map_val_commit (p : Par) {ys : List UU} {z : List (Int × Int)} (h : ys.map Subtype.val = z) : ys.map (fun y => commitI p y.1) = z.map (commitI p) := by
  rw [← h, List.map_map]
  rfl
theorem map_lists_com (p : Par) {X : Nat → Prop} {w₀ : World} {G : List Int → Prop} {ys : List (SS encU X w₀ G)} {z : List (List Int × List Int)} (h : ys.map SS.lists = z) : ys.map (fun y => comI p y.lists) = z.map (comI p) := by
  rw [← h, List.map_map]
  rfl
set_option maxRecDepth 100000 in
set_option maxHeartbeats 4000000 in
theorem coms_in (n : Nat) (hn : 6 ≤ n) (p : Par) (vf vr : Value) (f r : List (List Int)) (X : Nat → Prop) (w : World) (hp : p.ok) (hf : Sl (encS encU) X w vf f) (hr : Sl (encS encU) X w vr r) (hb1 : f.length ≤ 100000) (hb2 : r.length ≤ 100000) (hb3 : ∀ c ∈ f, small1 c) (hb4 : ∀ c ∈ r, small1 c) :
    CallsIn Fence.wide n Try.prog 12 #[p.v, vf, vr] w (Gives (encS encU) (fun g => w.heap.size ≤ g) w (comsI p f r)) := by
  have h1 : 1 ≤ n := by omega
  have HF := Lib.hid hf
  have HR := Lib.hid hr
  have HP := Lib.hid hp
  obtain ⟨A1, c1, rfl, _, _⟩ := hf.form
  obtain ⟨A2, c2, rfl, _, _⟩ := hr.form
  clear hf hr hp
  have HZL : Hid ((zipS f r).length ≤ 100000) := Lib.hid (by simp [zipS]; omega)
  refine callsIn_of_wp_marks Try.func12 rfl trivial ?_ rfl
  simp only [Try.ntmps12, List.size_toArray, List.length_cons, List.length_nil, Nat.reduceAdd, Nat.reduceSub, Array.replicate_succ, Array.replicate_zero, List.push_toArray, List.append_toArray, List.nil_append, List.cons_append]
  gi_wp2_with (refine ⟨trivial, ?_⟩; refine (callsIn_wide.2 (pairsS_any _ _ _ _ _ _ _)).mono ?_; rintro e w' ⟨rfl, rfl⟩)
  have hs1 : (w.alloc (.cells p.cells 25)).heap.size = w.heap.size + 1 := by simp
  have hs2 : ((w.alloc (.cells p.cells 25)).alloc (.cells #[.slice none 0 0] 28)).heap.size = w.heap.size + 1 + 1 := by simp
  have hs3 : (((w.alloc (.cells p.cells 25)).alloc (.cells #[.slice none 0 0] 28)).alloc (.cells #[.slice A1 f.length c1] 28)).heap.size = w.heap.size + 1 + 1 + 1 := by simp
  have bP : Bk _ w.heap.size 25 p.cells := (((Bk.new w 25 p.cells).alloc (.cells #[.slice none 0 0] 28)).alloc (.cells #[.slice A1 f.length c1] 28)).alloc (.cells #[.slice A2 r.length c2] 28)
  have bO := ((Boxed.new (w.alloc (.cells p.cells 25)) 28 (.slice none 0 0)).alloc (.cells #[.slice A1 f.length c1] 28)).alloc (.cells #[.slice A2 r.length c2] 28)
  have bA := (Boxed.new ((w.alloc (.cells p.cells 25)).alloc (.cells #[.slice none 0 0] 28)) 28 (.slice A1 f.length c1)).alloc (.cells #[.slice A2 r.length c2] 28)
  have bB := Boxed.new (((w.alloc (.cells p.cells 25)).alloc (.cells #[.slice none 0 0] 28)).alloc (.cells #[.slice A1 f.length c1] 28)) 28 (.slice A2 r.length c2)
  rw [hs1] at bO
  rw [hs2] at bA
  rw [hs3] at bB
  have hB0 : Below w.heap.size w ((((w.alloc (.cells p.cells 25)).alloc (.cells #[.slice none 0 0] 28)).alloc (.cells #[.slice A1 f.length c1] 28)).alloc (.cells #[.slice A2 r.length c2] 28)) := below_grown (((World.grownBy_alloc w _ none).trans (World.grownBy_alloc _ _ none)).trans ((World.grownBy_alloc _ _ none).trans (World.grownBy_alloc _ _ none)))
  have hsz : ((((w.alloc (.cells p.cells 25)).alloc (.cells #[.slice none 0 0] 28)).alloc (.cells #[.slice A1 f.length c1] 28)).alloc (.cells #[.slice A2 r.length c2] 28)).heap.size = w.heap.size + 4 := by simp
  obtain ⟨W0, hW0⟩ : ∃ W0, (((w.alloc (.cells p.cells 25)).alloc (.cells #[.slice none 0 0] 28)).alloc (.cells #[.slice A1 f.length c1] 28)).alloc (.cells #[.slice A2 r.length c2] 28) = W0 := ⟨_, rfl⟩
  rw [hW0] at bP bO bA bB hB0 hsz ⊢
  clear hW0 hs1 hs2 hs3
  have HPG : Hid (∀ c ∈ f, small1 c) := Lib.hid hb3
  refine wpIn_rangeFunc_ownH rfl h1 (gf := 35) (lb := #[.pointer (some ⟨w.heap.size + 1 + 1, 0, none⟩), .pointer (some ⟨w.heap.size + 1 + 1 + 1, 0, none⟩)]) rfl trivial (enters_of Try.func35 (by kernel_rfl) rfl)
    (pairsS_stops (n - 1) (by omega) (w.heap.size + 1 + 1) (w.heap.size + 1 + 1 + 1) _ _ f r X w W0 small1 (by simp) hb3 hb4 hB0 bA bB HF.out HR.out) KpAB.trans (KpAB.b (by omega) (by omega) (by omega)) (Below.refl _ _) (fun _ => rfl)
    (fun pre W => (∃ v, Boxed W (w.heap.size + 1) 28 v ∧ Acc (encS encU) (w.heap.size + 4) 27 (fun g => w.heap.size + 4 ≤ g) W v (pre.map fun x => comI p x.lists)) ∧ Bk W w.heap.size 25 p.cells ∧ Below w.heap.size w W ∧ Boxed W (w.heap.size + 1 + 1) 28 (.slice A1 f.length c1) ∧ Boxed W (w.heap.size + 1 + 1 + 1) 28 (.slice A2 r.length c2))
    (fun _ _ _ => False)
    (fun pre X Y row hs hg hrow => by
      obtain ⟨⟨v, hb, ha⟩, hk, hB, hb2, hb3⟩ := hs
      have hr' := fun r e => (hrow r e).2
      exact ⟨⟨v, hb.kept hg (boxNe hb hr'), ha.keepc hg hr'⟩, hk.grown hg (cell_ne (hk.cell 0) hr'), hB.grown hg hB.size (fun k e => by have := (hrow k e).1; omega), hb2.kept hg (boxNe hb2 hr'), hb3.kept hg (boxNe hb3 hr')⟩)
    (fun _ _ _ _ _ hs _ _ => hs)
    ⟨⟨_, bO, Acc.nil _ _ _ _ _⟩, bP, hB0, bA, bB⟩
    (fun x a' _ => a' = { tmps := #[p.v, .slice A1 f.length c1, .slice A2 r.length c2, .pointer (some ⟨w.heap.size, 0, none⟩), undef, undef, .slice none 0 0, .pointer (some ⟨w.heap.size + 1, 0, none⟩), x.1.1.1, x.1.2.1, undef, undef, undef, .slice A1 f.length c1, .slice A2 r.length c2, .func (.func 35) #[] #[.pointer (some ⟨w.heap.size + 1 + 1, 0, none⟩), .pointer (some ⟨w.heap.size + 1 + 1 + 1, 0, none⟩)], x.1.1.1, x.1.2.1, undef, undef, undef, undef, undef, undef, undef, undef, undef, undef, undef, undef, undef, undef, undef, undef, undef, undef], defers := [] })
    (fun _ _ _ _ _ _ hs _ _ => hs)
    ?assign ?body ?done ?stop
  case assign =>
    rintro l pre x W K hi hK
    gi_wp2
    exact hK _ _ (KeepsFrom.refl _ _) (KpAB.refl _ _ _ _) hi rfl
  case body =>
    rintro l pre ⟨⟨⟨v1, l1⟩, ⟨v2, l2⟩⟩, ⟨hv1, hg1⟩, ⟨hv2, hg2⟩⟩ a' W hl ⟨r0, hr0⟩ ⟨⟨v, hbo, hao⟩, hbp, hbl, hba, hbb⟩ rfl hlt
    have k1 : Sl encU X w v1 l1 := hv1
    have k2 : Sl encU X w v2 l2 := hv2
    have k3 : l1.length ≤ 100000 := hg1
    have k4 : l2.length ≤ 100000 := hg2
    have HV1 := Lib.hid k1
    have HV2 := Lib.hid k2
    obtain ⟨D1, d1, rfl, _, _⟩ := k1.form
    obtain ⟨D2, d2, rfl, _, _⟩ := k2.form
    have HSM : Hid ((zipU l1 l2).length ≤ 100000) := Lib.hid (by simp [zipU]; omega)
    have HPL : Hid (pre.length < 100000) := Lib.hid (Nat.lt_of_lt_of_le hlt HZL.out)
    clear k1 k2 k3 k4 hlt
    dsimp only
    gi_wp2_with (refine ⟨trivial, fun _ => by omega, ?_⟩; refine (CallsIn.inRound l (callsIn_wide.2 (pairsU_any _ _ _ _ _ _ _))).mono ?_; rintro e w' ⟨rfl, rfl⟩)
    have hs1 : (W.alloc (.cells #[.slice none 0 0] 27)).heap.size = W.heap.size + 1 := by simp
    have hs2 : ((W.alloc (.cells #[.slice none 0 0] 27)).alloc (.cells #[.slice D1 l1.length d1] 27)).heap.size = W.heap.size + 1 + 1 := by simp
    have bL := ((Boxed.new W 27 (.slice none 0 0)).alloc (.cells #[.slice D1 l1.length d1] 27)).alloc (.cells #[.slice D2 l2.length d2] 27)
    have bC := (Boxed.new (W.alloc (.cells #[.slice none 0 0] 27)) 27 (.slice D1 l1.length d1)).alloc (.cells #[.slice D2 l2.length d2] 27)
    have bD := Boxed.new ((W.alloc (.cells #[.slice none 0 0] 27)).alloc (.cells #[.slice D1 l1.length d1] 27)) 27 (.slice D2 l2.length d2)
    rw [hs1] at bC
    rw [hs2] at bD
    have hg2 : W.grownBy (((W.alloc (.cells #[.slice none 0 0] 27)).alloc (.cells #[.slice D1 l1.length d1] 27)).alloc (.cells #[.slice D2 l2.length d2] 27)) none := ((World.grownBy_alloc W _ none).trans (World.grownBy_alloc _ _ none)).trans (World.grownBy_alloc _ _ none)
    have hsz2 : (((W.alloc (.cells #[.slice none 0 0] 27)).alloc (.cells #[.slice D1 l1.length d1] 27)).alloc (.cells #[.slice D2 l2.length d2] 27)).heap.size = W.heap.size + 3 := by simp
    obtain ⟨W2, hW2⟩ : ∃ W2, ((W.alloc (.cells #[.slice none 0 0] 27)).alloc (.cells #[.slice D1 l1.length d1] 27)).alloc (.cells #[.slice D2 l2.length d2] 27) = W2 := ⟨_, rfl⟩
    rw [hW2] at bL bC bD hg2 hsz2 ⊢
    clear hW2 hs1 hs2
    have hNW := hbl.size
    have hbW2 : Below w.heap.size w W2 := hbl.trans ((below_grown hg2).mono hNW)
    have hr' : W2.heap[l]? = some (.loop r0) := (hg2.block l (Array.getElem?_eq_some_iff.1 hr0).1 (by simp)).trans hr0
    have hkf2 : KeepsFrom W0.heap.size W W2 := (keeps_none hg2).from _
    refine wpIn_rangeFunc_ownN (l₀ := l) (r₀ := r0) rfl hr' (by omega) (gf := 37) (lb := #[.pointer (some ⟨W.heap.size + 1, 0, none⟩), .pointer (some ⟨W.heap.size + 1 + 1, 0, none⟩)]) rfl trivial (enters_of Try.func37 (by kernel_rfl) rfl)
      ((pairsU_stops (n - 1 - 1 - 1) (by omega) (W.heap.size + 1) (W.heap.size + 1 + 1) _ _ l1 l2 X w W2 hbW2 bC bD HV1.out HV2.out).inRound l) KpAB.trans (KpAB.b (by omega) (by omega) (by omega)) (Below.refl _ _) (fun _ => rfl)
      (fun pre' W' => (∃ u, Boxed W' W.heap.size 27 u ∧ Acc encU (W.heap.size + 3) 23 (fun g => W.heap.size + 3 ≤ g) W' u (pre'.map fun y => commitI p y.1)) ∧ Below W.heap.size W W' ∧ KeepsFrom W0.heap.size W W' ∧ Boxed W' (W.heap.size + 1) 27 (.slice D1 l1.length d1) ∧ Boxed W' (W.heap.size + 1 + 1) 27 (.slice D2 l2.length d2))
      (fun _ _ _ => False)
      (fun pre' X' Y row hs hg hrow => by
        obtain ⟨⟨u, hb, ha⟩, hB, hK, hb2, hb3⟩ := hs
        have hr' := fun r e => (hrow r e).2
        exact ⟨⟨u, hb.kept hg (boxNe hb hr'), ha.keepc hg hr'⟩, hB.grown hg hB.size (fun k e => by have := (hrow k e).1; omega), ownFrom_keepsFrom (B' := W2.heap.size) hg2.size () X' Y row hK hg hrow, hb2.kept hg (boxNe hb2 hr'), hb3.kept hg (boxNe hb3 hr')⟩)
      (fun _ _ _ _ _ hs _ _ => hs)
      ⟨⟨_, bL, Acc.nil _ _ _ _ _⟩, below_grown hg2, hkf2, bC, bD⟩
      (fun y a'' _ => a'' = { tmps := #[p.v, .slice A1 f.length c1, .slice A2 r.length c2, .pointer (some ⟨w.heap.size, 0, none⟩), undef, undef, .slice none 0 0, .pointer (some ⟨w.heap.size + 1, 0, none⟩), .slice D1 l1.length d1, .slice D2 l2.length d2, .pointer (some ⟨W.heap.size, 0, none⟩), .int .u64 y.1.1, .int .u64 y.1.2, .slice A1 f.length c1, .slice A2 r.length c2, .func (.func 35) #[] #[.pointer (some ⟨w.heap.size + 1 + 1, 0, none⟩), .pointer (some ⟨w.heap.size + 1 + 1 + 1, 0, none⟩)], .slice D1 l1.length d1, .slice D2 l2.length d2, .slice D1 l1.length d1, .slice D2 l2.length d2, .func (.func 37) #[] #[.pointer (some ⟨W.heap.size + 1, 0, none⟩), .pointer (some ⟨W.heap.size + 1 + 1, 0, none⟩)], .int .u64 y.1.1, .int .u64 y.1.2, undef, undef, undef, undef, undef, undef, undef, undef, undef, undef, undef, undef, undef], defers := [] })
      (fun _ _ _ _ _ _ hs _ _ => hs)
      ?assign2 ?body2 ?done2 ?stop2
    case assign2 =>
      rintro lq pre' y W' K hi hK
      gi_wp2
      exact hK _ _ (KeepsFrom.refl _ _) (KpAB.refl _ _ _ _) hi rfl
    case body2 =>
      rintro lq pre' ⟨⟨y1, y2⟩, hu1, hu2⟩ a'' W' hl2 _ ⟨⟨u, hbu, hau⟩, hBW, hKF, hbc, hbd⟩ rfl hlt2
      have HY1 : Hid (U64 y1) := Lib.hid hu1
      have HY2 : Hid (U64 y2) := Lib.hid hu2
      obtain ⟨A3, c3, e3, _, _⟩ := hau.sl.form
      rw [List.length_map] at e3
      subst e3
      have HAC := Lib.hid hau
      have HBL := Lib.hid hbu
      have HBC := Lib.hid hbc
      have HBD := Lib.hid hbd
      have HBW := Lib.hid hBW
      have HKF := Lib.hid hKF
      have hltM : W.heap.size < W'.heap.size := hbu.lt
      have hltN : w.heap.size < W'.heap.size := by omega
      have HS0 : Hid (W.heap.size + 3 ≤ W'.heap.size) := Lib.hid (by have := hbd.lt; omega)
      have hpr := (hbp.grown (grown_of_below hBW) (by simp)).prule
      have cU := hbu.cell
      have HCU : Hid (U64 (commitI p (y1, y2))) := Lib.hid (timesI_U64 _ _)
      have HLB : Hid (((pre'.map fun y : UU => commitI p y.1).length + 1) * 8 ≤ 140737488355328) := Lib.hid (by rw [List.length_map]; have := HSM.out; omega)
      clear hau hbc hbd hBW hKF hbu hlt2
      have FIN : ∀ (w3 w4 : World) (A4 : Option Addr) (n4 c4 : Nat), W'.grownBy w3 none → w3.grownBy w4 (Value.slice A3 pre'.length c3).ownBlock → Acc encU (W.heap.size + 3) 23 (fun g => W.heap.size + 3 ≤ g) w3 (.slice A3 pre'.length c3) (pre'.map fun y : UU => commitI p y.1) → Acc encU (W.heap.size + 3) 23 (fun g => W.heap.size + 3 ≤ g) w4 (.slice A4 n4 c4) ((pre'.map fun y : UU => commitI p y.1) ++ [commitI p (y1, y2)]) → Boxed w4 W.heap.size 27 (.slice A3 pre'.length c3) → (fun w5 : World => KeepsFrom W2.heap.size W' w5 ∧ KpAB w.heap.size (W.heap.size + 1) (W.heap.size + 1 + 1) W' w5 ∧ (∃ u, Boxed w5 W.heap.size 27 u ∧ Acc encU (W.heap.size + 3) 23 (fun g => W.heap.size + 3 ≤ g) w5 u ((pre' ++ [(⟨(y1, y2), hu1, hu2⟩ : UU)]).map fun y => commitI p y.1)) ∧ Below W.heap.size W w5 ∧ KeepsFrom W0.heap.size W w5 ∧ Boxed w5 (W.heap.size + 1) 27 (.slice D1 l1.length d1) ∧ Boxed w5 (W.heap.size + 1 + 1) 27 (.slice D2 l2.length d2)) (w4.setCell ⟨W.heap.size, 0, none⟩ (.slice A4 n4 c4)) := by
        intro w3 w4 A4 n4 c4 hG3 hG4 hA3 hA4 hB4
        have hN2 : ∀ k, k < W.heap.size + 3 → some k ≠ (Value.slice A3 pre'.length c3).ownBlock := fun k hk e => by have := (hA3.lt k e.symm).1; omega
        have hN3 : ∀ k, (Value.slice A3 pre'.length c3).ownBlock = some k → W.heap.size + 3 ≤ k := fun k e => (hA3.lt k e).1
        have hK5 : KeepsOthers W' (w4.setCell ⟨W.heap.size, 0, none⟩ (.slice A4 n4 c4)) := ((keeps_none hG3).trans (hA3.keeps hG4)).trans (KeepsOthers.setCell _ _ _)
        have b1 := ((HBC.out.kept hG3 (by simp)).kept hG4 (hN2 _ (by omega))).other (B' := W.heap.size) (by omega) (.slice A4 n4 c4)
        have b2 := ((HBD.out.kept hG3 (by simp)).kept hG4 (hN2 _ (by omega))).other (B' := W.heap.size) (by omega) (.slice A4 n4 c4)
        have hS3 : W'.heap.size ≤ w3.heap.size := hG3.size
        refine ⟨hK5.from _, ⟨(((Below.refl _ W').grown hG3 (by omega) (by simp)).grown hG4 (by omega) (fun k e => by have := hN3 k e; omega)).setCell (p := ⟨W.heap.size, 0, none⟩) hNW _, Eq.trans b1 (Eq.symm HBC.out), Eq.trans b2 (Eq.symm HBD.out)⟩, ⟨_, hB4.set _, ?_⟩, ((HBW.out.grown hG3 (by omega) (by simp)).grown hG4 (by omega) (fun k e => by have := hN3 k e; omega)).setCell (p := ⟨W.heap.size, 0, none⟩) (Nat.le_refl _) _, HKF.out.trans (hK5.from _), b1, b2⟩
        rw [List.map_append]
        exact hA4.keep (grownBy_setCell' w4 W.heap.size _) (fun g hg e => by injection e with e; omega)
      dsimp only
      gi_wp2
      refine wpIn_round_any (l0 := lq) (R := fun _ w5 => KeepsFrom W2.heap.size W' w5 ∧ KpAB w.heap.size (W.heap.size + 1) (W.heap.size + 1 + 1) W' w5 ∧ (∃ u, Boxed w5 W.heap.size 27 u ∧ Acc encU (W.heap.size + 3) 23 (fun g => W.heap.size + 3 ≤ g) w5 u ((pre' ++ [(⟨(y1, y2), hu1, hu2⟩ : UU)]).map fun y => commitI p y.1)) ∧ Below W.heap.size W w5 ∧ KeepsFrom W0.heap.size W w5 ∧ Boxed w5 (W.heap.size + 1) 27 (.slice D1 l1.length d1) ∧ Boxed w5 (W.heap.size + 1 + 1) 27 (.slice D2 l2.length d2)) (by kernel_rfl) (by kernel_rfl) (fun a w h => h) ?_
      refine wpAny_take (i := 2) (oi := ({ dst := some 25, op := Op.move (Operand.tmp 11), type := 23, pos := "pedersen.go:41", after := #[], guard := none } : Oper)) (v := ?vq1) rfl (by kernel_rfl) (by kernel_rfl) (by kernel_rfl) (fun _ _ _ h => h) (Or.inl ⟨by rfl, ?hq1⟩) ?rq1
      case hq1 => (intro w; go_simp; first | done | with_reducible rfl)
      try simp only [Act.put, List.setIfInBounds_toArray, List.set_cons_zero, List.set_cons_succ]
      refine wpAny_take (i := 3) (oi := ({ dst := some 26, op := Op.move (Operand.tmp 12), type := 23, pos := "pedersen.go:41", after := #[], guard := none } : Oper)) (v := ?vq2) rfl (by kernel_rfl) (by kernel_rfl) (by kernel_rfl) (fun _ _ _ h => h) (Or.inl ⟨by rfl, ?hq2⟩) ?rq2
      case hq2 => (intro w; go_simp; first | done | with_reducible rfl)
      try simp only [Act.put, List.setIfInBounds_toArray, List.set_cons_zero, List.set_cons_succ]
      refine wpAny_take (i := 4) (oi := ({ dst := some 27, op := Op.build 41 #[(0, Operand.tmp 25), (1, Operand.tmp 26)], type := 41, pos := "pedersen.go:41", after := #[{ on := 2, ground := Ground.data }, { on := 3, ground := Ground.data }], guard := none } : Oper)) (v := ?vq3) rfl (by kernel_rfl) (by kernel_rfl) (by kernel_rfl) (fun _ _ _ h => h) (Or.inl ⟨by rfl, ?hq3⟩) ?rq3
      case hq3 => (intro w; go_simp; first | done | with_reducible rfl)
      try simp only [Act.put, List.setIfInBounds_toArray, List.set_cons_zero, List.set_cons_succ]
      refine wpAny_ready (rs := [0, 1]) (by kernel_rfl) (by simp) ?_
      refine AllReady.cons (o := ({ dst := some 23, op := Op.load 27 (Operand.tmp 10), type := 27, pos := "pedersen.go:41", after := #[], guard := none } : Oper)) rfl (fun K hK => ?_) ?_
      · skip
        go_simp
        refine hK _ _ ?_
        clear hK K
        try simp only [Act.put, List.setIfInBounds_toArray, List.set_cons_zero, List.set_cons_succ]
        refine wpAny_ready (rs := [1]) (by kernel_rfl) (by simp) ?_
        refine AllReady.cons (o := ({ dst := some 24, op := Op.load 25 (Operand.tmp 3), type := 25, pos := "pedersen.go:41", after := #[], guard := none } : Oper)) rfl (fun K hK => ?_) AllReady.nil
        go_simp
        refine hK _ _ ?_
        clear hK K
        try simp only [Act.put, List.setIfInBounds_toArray, List.set_cons_zero, List.set_cons_succ]
        refine wpAny_ready (rs := [5]) (by kernel_rfl) (by simp) ?_
        refine AllReady.cons (o := ({ dst := some 28, op := Op.call { callee := Callee.value (Operand.func 24), args := #[Operand.tmp 24, Operand.tmp 27], argTypes := #[25, 41] }, type := 23, pos := "pedersen.go:41", after := #[{ on := 1, ground := Ground.data }, { on := 4, ground := Ground.data }], guard := none } : Oper)) rfl (fun K hK => ?_) AllReady.nil
        go_simp
        (go_at_call 24; (with_reducible refine (commit_any p (y1, y2) _ HP.out HY1.out HY2.out).mono ?_); rintro e w3 ⟨rfl, hg3⟩)
        have HG3 : Hid (W'.grownBy w3 none) := Lib.hid ((grown_drewN' W' 1).trans hg3)
        have HA3 := Lib.hid (HAC.out.kept HG3.out)
        have HB3 := Lib.hid (HBL.out.kept HG3.out (by simp))
        have HSZ : Hid (W.heap.size + 3 ≤ w3.heap.size) := Lib.hid (Nat.le_trans HS0.out HG3.out.size)
        have HNX : Hid (∀ g, w3.heap.size ≤ g → W.heap.size + 3 ≤ g) := Lib.hid (fun g hg => Nat.le_trans HSZ.out hg)
        have HNE : Hid (some W.heap.size ≠ (Value.slice A3 pre'.length c3).ownBlock) := Lib.hid (fun e => by have := (HA3.out.lt _ e.symm).1; omega)
        have hc3 := HB3.out.cell
        have hc3a := (HB3.out.alloc (.cells #[.int .u64 (commitI p (y1, y2))] 23)).cell
        clear hg3
        dsimp only
        refine hK _ _ ?_
        clear hK K
        try simp only [Act.put, List.setIfInBounds_toArray, List.set_cons_zero, List.set_cons_succ]
        refine wpAny_ready (rs := [6]) (by kernel_rfl) (by simp) ?_
        refine AllReady.cons (o := ({ dst := some 29, op := Op.buildSlice 27 1 #[(0, Operand.tmp 28)], type := 27, pos := "pedersen.go:41", after := #[{ on := 5, ground := Ground.data }], guard := none } : Oper)) rfl (fun K hK => ?_) AllReady.nil
        go_simp
        refine hK _ _ ?_
        clear hK K
        try simp only [Act.put, List.setIfInBounds_toArray, List.set_cons_zero, List.set_cons_succ]
        refine wpAny_ready (rs := [7]) (by kernel_rfl) (by simp) ?_
        refine AllReady.cons (o := ({ dst := some 30, op := Op.call { callee := Callee.builtin Builtin.append, args := #[Operand.tmp 23, Operand.tmp 29], argTypes := #[27, 27] }, type := 27, pos := "pedersen.go:41", after := #[{ on := 0, ground := Ground.data }, { on := 6, ground := Ground.data }, { on := 5, ground := Ground.chain }], guard := none } : Oper)) rfl (fun K hK => ?_) AllReady.nil
        refine step_push rfl (.tmp 23) (.tmp 29) rfl (E := encU) (y := commitI p (y1, y2)) el_u64 HA3.out rfl rfl ⟨rfl, HCU.out⟩ HLB.out HSZ.out HNX.out ?_
        intro v4 w4 hacc4 hg4 _
        obtain ⟨A4, c4, e4, _, _⟩ := hacc4.sl.form
        generalize (List.map (fun y : UU => commitI p y.1) pre' ++ [commitI p (y1, y2)]).length = n4 at e4
        subst e4
        have HA4 := Lib.hid hacc4
        have HG4 := Lib.hid hg4
        have hB4 := HB3.out.kept HG4.out HNE.out
        have cB4 := hB4.cell
        have fB4 := hB4.frozen
        have HB4 := Lib.hid hB4
        clear hacc4 hg4 hB4
        refine hK _ _ ?_
        clear hK K
        try simp only [Act.put, List.setIfInBounds_toArray, List.set_cons_zero, List.set_cons_succ]
        refine wpAny_ready (rs := [8]) (by kernel_rfl) (by simp) ?_
        refine AllReady.cons (o := ({ dst := none, op := Op.store 27 (Operand.tmp 10) (Operand.tmp 30), type := 0, pos := "pedersen.go:41", after := #[{ on := 7, ground := Ground.data }, { on := 7, ground := Ground.chain }, { on := 0, ground := Ground.phase }, { on := 1, ground := Ground.phase }, { on := 2, ground := Ground.phase }, { on := 3, ground := Ground.phase }, { on := 4, ground := Ground.phase }, { on := 5, ground := Ground.phase }, { on := 6, ground := Ground.phase }, { on := 7, ground := Ground.phase }], guard := none } : Oper)) rfl (fun K hK => ?_) AllReady.nil
        go_simp
        refine hK _ _ ?_
        clear hK K
        try simp only [Act.put, List.setIfInBounds_toArray, List.set_cons_zero, List.set_cons_succ]
        refine wpAny_done (by kernel_rfl) ?_ _
        exact ⟨rfl, FIN w3 w4 A4 n4 c4 HG3.out HG4.out HA3.out HA4.out HB4.out⟩
      refine AllReady.cons (o := ({ dst := some 24, op := Op.load 25 (Operand.tmp 3), type := 25, pos := "pedersen.go:41", after := #[], guard := none } : Oper)) rfl (fun K hK => ?_) AllReady.nil
      go_simp
      refine hK _ _ ?_
      clear hK K
      try simp only [Act.put, List.setIfInBounds_toArray, List.set_cons_zero, List.set_cons_succ]
      refine wpAny_ready (rs := [0, 5]) (by kernel_rfl) (by simp) ?_
      refine AllReady.cons (o := ({ dst := some 23, op := Op.load 27 (Operand.tmp 10), type := 27, pos := "pedersen.go:41", after := #[], guard := none } : Oper)) rfl (fun K hK => ?_) ?_
      · skip
        go_simp
        refine hK _ _ ?_
        clear hK K
        try simp only [Act.put, List.setIfInBounds_toArray, List.set_cons_zero, List.set_cons_succ]
        refine wpAny_ready (rs := [5]) (by kernel_rfl) (by simp) ?_
        refine AllReady.cons (o := ({ dst := some 28, op := Op.call { callee := Callee.value (Operand.func 24), args := #[Operand.tmp 24, Operand.tmp 27], argTypes := #[25, 41] }, type := 23, pos := "pedersen.go:41", after := #[{ on := 1, ground := Ground.data }, { on := 4, ground := Ground.data }], guard := none } : Oper)) rfl (fun K hK => ?_) AllReady.nil
        go_simp
        (go_at_call 24; (with_reducible refine (commit_any p (y1, y2) _ HP.out HY1.out HY2.out).mono ?_); rintro e w3 ⟨rfl, hg3⟩)
        have HG3 : Hid (W'.grownBy w3 none) := Lib.hid ((grown_drewN' W' 1).trans hg3)
        have HA3 := Lib.hid (HAC.out.kept HG3.out)
        have HB3 := Lib.hid (HBL.out.kept HG3.out (by simp))
        have HSZ : Hid (W.heap.size + 3 ≤ w3.heap.size) := Lib.hid (Nat.le_trans HS0.out HG3.out.size)
        have HNX : Hid (∀ g, w3.heap.size ≤ g → W.heap.size + 3 ≤ g) := Lib.hid (fun g hg => Nat.le_trans HSZ.out hg)
        have HNE : Hid (some W.heap.size ≠ (Value.slice A3 pre'.length c3).ownBlock) := Lib.hid (fun e => by have := (HA3.out.lt _ e.symm).1; omega)
        have hc3 := HB3.out.cell
        have hc3a := (HB3.out.alloc (.cells #[.int .u64 (commitI p (y1, y2))] 23)).cell
        clear hg3
        dsimp only
        refine hK _ _ ?_
        clear hK K
        try simp only [Act.put, List.setIfInBounds_toArray, List.set_cons_zero, List.set_cons_succ]
        refine wpAny_ready (rs := [6]) (by kernel_rfl) (by simp) ?_
        refine AllReady.cons (o := ({ dst := some 29, op := Op.buildSlice 27 1 #[(0, Operand.tmp 28)], type := 27, pos := "pedersen.go:41", after := #[{ on := 5, ground := Ground.data }], guard := none } : Oper)) rfl (fun K hK => ?_) AllReady.nil
        go_simp
        refine hK _ _ ?_
        clear hK K
        try simp only [Act.put, List.setIfInBounds_toArray, List.set_cons_zero, List.set_cons_succ]
        refine wpAny_ready (rs := [7]) (by kernel_rfl) (by simp) ?_
        refine AllReady.cons (o := ({ dst := some 30, op := Op.call { callee := Callee.builtin Builtin.append, args := #[Operand.tmp 23, Operand.tmp 29], argTypes := #[27, 27] }, type := 27, pos := "pedersen.go:41", after := #[{ on := 0, ground := Ground.data }, { on := 6, ground := Ground.data }, { on := 5, ground := Ground.chain }], guard := none } : Oper)) rfl (fun K hK => ?_) AllReady.nil
        refine step_push rfl (.tmp 23) (.tmp 29) rfl (E := encU) (y := commitI p (y1, y2)) el_u64 HA3.out rfl rfl ⟨rfl, HCU.out⟩ HLB.out HSZ.out HNX.out ?_
        intro v4 w4 hacc4 hg4 _
        obtain ⟨A4, c4, e4, _, _⟩ := hacc4.sl.form
        generalize (List.map (fun y : UU => commitI p y.1) pre' ++ [commitI p (y1, y2)]).length = n4 at e4
        subst e4
        have HA4 := Lib.hid hacc4
        have HG4 := Lib.hid hg4
        have hB4 := HB3.out.kept HG4.out HNE.out
        have cB4 := hB4.cell
        have fB4 := hB4.frozen
        have HB4 := Lib.hid hB4
        clear hacc4 hg4 hB4
        refine hK _ _ ?_
        clear hK K
        try simp only [Act.put, List.setIfInBounds_toArray, List.set_cons_zero, List.set_cons_succ]
        refine wpAny_ready (rs := [8]) (by kernel_rfl) (by simp) ?_
        refine AllReady.cons (o := ({ dst := none, op := Op.store 27 (Operand.tmp 10) (Operand.tmp 30), type := 0, pos := "pedersen.go:41", after := #[{ on := 7, ground := Ground.data }, { on := 7, ground := Ground.chain }, { on := 0, ground := Ground.phase }, { on := 1, ground := Ground.phase }, { on := 2, ground := Ground.phase }, { on := 3, ground := Ground.phase }, { on := 4, ground := Ground.phase }, { on := 5, ground := Ground.phase }, { on := 6, ground := Ground.phase }, { on := 7, ground := Ground.phase }], guard := none } : Oper)) rfl (fun K hK => ?_) AllReady.nil
        go_simp
        refine hK _ _ ?_
        clear hK K
        try simp only [Act.put, List.setIfInBounds_toArray, List.set_cons_zero, List.set_cons_succ]
        refine wpAny_done (by kernel_rfl) ?_ _
        exact ⟨rfl, FIN w3 w4 A4 n4 c4 HG3.out HG4.out HA3.out HA4.out HB4.out⟩
      refine AllReady.cons (o := ({ dst := some 28, op := Op.call { callee := Callee.value (Operand.func 24), args := #[Operand.tmp 24, Operand.tmp 27], argTypes := #[25, 41] }, type := 23, pos := "pedersen.go:41", after := #[{ on := 1, ground := Ground.data }, { on := 4, ground := Ground.data }], guard := none } : Oper)) rfl (fun K hK => ?_) AllReady.nil
      go_simp
      (go_at_call 24; (with_reducible refine (commit_any p (y1, y2) _ HP.out HY1.out HY2.out).mono ?_); rintro e w3 ⟨rfl, hg3⟩)
      have HG3 : Hid (W'.grownBy w3 none) := Lib.hid ((grown_drewN' W' 1).trans hg3)
      have HA3 := Lib.hid (HAC.out.kept HG3.out)
      have HB3 := Lib.hid (HBL.out.kept HG3.out (by simp))
      have HSZ : Hid (W.heap.size + 3 ≤ w3.heap.size) := Lib.hid (Nat.le_trans HS0.out HG3.out.size)
      have HNX : Hid (∀ g, w3.heap.size ≤ g → W.heap.size + 3 ≤ g) := Lib.hid (fun g hg => Nat.le_trans HSZ.out hg)
      have HNE : Hid (some W.heap.size ≠ (Value.slice A3 pre'.length c3).ownBlock) := Lib.hid (fun e => by have := (HA3.out.lt _ e.symm).1; omega)
      have hc3 := HB3.out.cell
      have hc3a := (HB3.out.alloc (.cells #[.int .u64 (commitI p (y1, y2))] 23)).cell
      clear hg3
      dsimp only
      refine hK _ _ ?_
      clear hK K
      try simp only [Act.put, List.setIfInBounds_toArray, List.set_cons_zero, List.set_cons_succ]
      refine wpAny_ready (rs := [0, 6]) (by kernel_rfl) (by simp) ?_
      refine AllReady.cons (o := ({ dst := some 23, op := Op.load 27 (Operand.tmp 10), type := 27, pos := "pedersen.go:41", after := #[], guard := none } : Oper)) rfl (fun K hK => ?_) ?_
      · skip
        go_simp
        refine hK _ _ ?_
        clear hK K
        try simp only [Act.put, List.setIfInBounds_toArray, List.set_cons_zero, List.set_cons_succ]
        refine wpAny_ready (rs := [6]) (by kernel_rfl) (by simp) ?_
        refine AllReady.cons (o := ({ dst := some 29, op := Op.buildSlice 27 1 #[(0, Operand.tmp 28)], type := 27, pos := "pedersen.go:41", after := #[{ on := 5, ground := Ground.data }], guard := none } : Oper)) rfl (fun K hK => ?_) AllReady.nil
        go_simp
        refine hK _ _ ?_
        clear hK K
        try simp only [Act.put, List.setIfInBounds_toArray, List.set_cons_zero, List.set_cons_succ]
        refine wpAny_ready (rs := [7]) (by kernel_rfl) (by simp) ?_
        refine AllReady.cons (o := ({ dst := some 30, op := Op.call { callee := Callee.builtin Builtin.append, args := #[Operand.tmp 23, Operand.tmp 29], argTypes := #[27, 27] }, type := 27, pos := "pedersen.go:41", after := #[{ on := 0, ground := Ground.data }, { on := 6, ground := Ground.data }, { on := 5, ground := Ground.chain }], guard := none } : Oper)) rfl (fun K hK => ?_) AllReady.nil
        refine step_push rfl (.tmp 23) (.tmp 29) rfl (E := encU) (y := commitI p (y1, y2)) el_u64 HA3.out rfl rfl ⟨rfl, HCU.out⟩ HLB.out HSZ.out HNX.out ?_
        intro v4 w4 hacc4 hg4 _
        obtain ⟨A4, c4, e4, _, _⟩ := hacc4.sl.form
        generalize (List.map (fun y : UU => commitI p y.1) pre' ++ [commitI p (y1, y2)]).length = n4 at e4
        subst e4
        have HA4 := Lib.hid hacc4
        have HG4 := Lib.hid hg4
        have hB4 := HB3.out.kept HG4.out HNE.out
        have cB4 := hB4.cell
        have fB4 := hB4.frozen
        have HB4 := Lib.hid hB4
        clear hacc4 hg4 hB4
        refine hK _ _ ?_
        clear hK K
        try simp only [Act.put, List.setIfInBounds_toArray, List.set_cons_zero, List.set_cons_succ]
        refine wpAny_ready (rs := [8]) (by kernel_rfl) (by simp) ?_
        refine AllReady.cons (o := ({ dst := none, op := Op.store 27 (Operand.tmp 10) (Operand.tmp 30), type := 0, pos := "pedersen.go:41", after := #[{ on := 7, ground := Ground.data }, { on := 7, ground := Ground.chain }, { on := 0, ground := Ground.phase }, { on := 1, ground := Ground.phase }, { on := 2, ground := Ground.phase }, { on := 3, ground := Ground.phase }, { on := 4, ground := Ground.phase }, { on := 5, ground := Ground.phase }, { on := 6, ground := Ground.phase }, { on := 7, ground := Ground.phase }], guard := none } : Oper)) rfl (fun K hK => ?_) AllReady.nil
        go_simp
        refine hK _ _ ?_
        clear hK K
        try simp only [Act.put, List.setIfInBounds_toArray, List.set_cons_zero, List.set_cons_succ]
        refine wpAny_done (by kernel_rfl) ?_ _
        exact ⟨rfl, FIN w3 w4 A4 n4 c4 HG3.out HG4.out HA3.out HA4.out HB4.out⟩
      refine AllReady.cons (o := ({ dst := some 29, op := Op.buildSlice 27 1 #[(0, Operand.tmp 28)], type := 27, pos := "pedersen.go:41", after := #[{ on := 5, ground := Ground.data }], guard := none } : Oper)) rfl (fun K hK => ?_) AllReady.nil
      go_simp
      refine hK _ _ ?_
      clear hK K
      try simp only [Act.put, List.setIfInBounds_toArray, List.set_cons_zero, List.set_cons_succ]
      refine wpAny_ready (rs := [0]) (by kernel_rfl) (by simp) ?_
      refine AllReady.cons (o := ({ dst := some 23, op := Op.load 27 (Operand.tmp 10), type := 27, pos := "pedersen.go:41", after := #[], guard := none } : Oper)) rfl (fun K hK => ?_) AllReady.nil
      go_simp
      refine hK _ _ ?_
      clear hK K
      try simp only [Act.put, List.setIfInBounds_toArray, List.set_cons_zero, List.set_cons_succ]
      refine wpAny_ready (rs := [7]) (by kernel_rfl) (by simp) ?_
      refine AllReady.cons (o := ({ dst := some 30, op := Op.call { callee := Callee.builtin Builtin.append, args := #[Operand.tmp 23, Operand.tmp 29], argTypes := #[27, 27] }, type := 27, pos := "pedersen.go:41", after := #[{ on := 0, ground := Ground.data }, { on := 6, ground := Ground.data }, { on := 5, ground := Ground.chain }], guard := none } : Oper)) rfl (fun K hK => ?_) AllReady.nil
      refine step_push rfl (.tmp 23) (.tmp 29) rfl (E := encU) (y := commitI p (y1, y2)) el_u64 HA3.out rfl rfl ⟨rfl, HCU.out⟩ HLB.out HSZ.out HNX.out ?_
      intro v4 w4 hacc4 hg4 _
      obtain ⟨A4, c4, e4, _, _⟩ := hacc4.sl.form
      generalize (List.map (fun y : UU => commitI p y.1) pre' ++ [commitI p (y1, y2)]).length = n4 at e4
      subst e4
      have HA4 := Lib.hid hacc4
      have HG4 := Lib.hid hg4
      have hB4 := HB3.out.kept HG4.out HNE.out
      have cB4 := hB4.cell
      have fB4 := hB4.frozen
      have HB4 := Lib.hid hB4
      clear hacc4 hg4 hB4
      refine hK _ _ ?_
      clear hK K
      try simp only [Act.put, List.setIfInBounds_toArray, List.set_cons_zero, List.set_cons_succ]
      refine wpAny_ready (rs := [8]) (by kernel_rfl) (by simp) ?_
      refine AllReady.cons (o := ({ dst := none, op := Op.store 27 (Operand.tmp 10) (Operand.tmp 30), type := 0, pos := "pedersen.go:41", after := #[{ on := 7, ground := Ground.data }, { on := 7, ground := Ground.chain }, { on := 0, ground := Ground.phase }, { on := 1, ground := Ground.phase }, { on := 2, ground := Ground.phase }, { on := 3, ground := Ground.phase }, { on := 4, ground := Ground.phase }, { on := 5, ground := Ground.phase }, { on := 6, ground := Ground.phase }, { on := 7, ground := Ground.phase }], guard := none } : Oper)) rfl (fun K hK => ?_) AllReady.nil
      go_simp
      refine hK _ _ ?_
      clear hK K
      try simp only [Act.put, List.setIfInBounds_toArray, List.set_cons_zero, List.set_cons_succ]
      refine wpAny_done (by kernel_rfl) ?_ _
      exact ⟨rfl, FIN w3 w4 A4 n4 c4 HG3.out HG4.out HA3.out HA4.out HB4.out⟩
    case done2 =>
      rintro ys' W' hys ⟨⟨u, hbu, hau⟩, hBW, hKF, hbc, hbd⟩
      rw [map_val_commit p hys] at hau
      obtain ⟨A3, c3, e3, _, _⟩ := hau.sl.form
      rw [List.length_map] at e3
      subst e3
      obtain ⟨A5, c5, e5, _, _⟩ := hao.sl.form
      rw [List.length_map] at e5
      subst e5
      have hG := grown_of_below hBW
      have HG := Lib.hid hG
      have hbo' := hbo.kept hG (by simp)
      have HAO := Lib.hid (hao.kept hG)
      have HBO := Lib.hid hbo'
      have HLT := Lib.hid hao.lt
      have cO := hbo'.cell
      have cU := hbu.cell
      have hMN : w.heap.size + 4 ≤ W.heap.size := by have := hbb.lt; omega
      have HU : Hid (Sl encU (fun g => w.heap.size + 4 ≤ g ∧ some g ≠ (Value.slice A5 pre.length c5).ownBlock) W' (.slice A3 (zipU l1 l2).length c3) (comI p (l1, l2))) := Lib.hid (hau.sl.more (fun g _ hg => ⟨by omega, fun e => by have := (HLT.out g e.symm).2; omega⟩))
      have HLB : Hid (((pre.map fun x : SS encU X w small1 => comI p x.lists).length + 1) * 24 ≤ 140737488355328) := Lib.hid (by rw [List.length_map]; have := HPL.out; omega)
      have HSZ : Hid (w.heap.size + 4 ≤ W'.heap.size) := Lib.hid (by have := hG.size; omega)
      have HNX : Hid (∀ g, W'.heap.size ≤ g → w.heap.size + 4 ≤ g) := Lib.hid (fun g hg => Nat.le_trans HSZ.out hg)
      have HKF := Lib.hid hKF
      have HBW := Lib.hid hBW
      have HNE : Hid (some (w.heap.size + 1) ≠ (Value.slice A5 pre.length c5).ownBlock) := Lib.hid (fun e => by have := (HAO.out.lt _ e.symm).1; omega)
      clear hau hao hbo' hBW hKF hbc hbd
      gi_wp2_with (gi_at_builtin; refine wpListIn_push rfl (.tmp 31) (.tmp 33) rfl (E := encS encU) (y := comI p (l1, l2)) el_nums HAO.out rfl rfl ⟨_, rfl, HU.out⟩ HLB.out HSZ.out HNX.out ?_)
      intro v4 w4 hacc4 hg4 _
      obtain ⟨A4, c4, e4, _, _⟩ := hacc4.sl.form
      generalize (List.map (fun x : SS encU X w small1 => comI p x.lists) pre ++ [comI p (l1, l2)]).length = n4 at e4
      subst e4
      have HA4 := Lib.hid hacc4
      have HG4 := Lib.hid hg4
      have hB4 := HBO.out.kept HG4.out HNE.out
      have cB4 := hB4.cell
      have fB4 := hB4.frozen
      have HB4 := Lib.hid hB4
      clear hacc4 hg4 hB4
      gi_wp2
      have hN2 : ∀ k, k < w.heap.size + 4 → some k ≠ (Value.slice A5 pre.length c5).ownBlock := fun k hk e => by have := (HAO.out.lt k e.symm).1; omega
      have hN3 : ∀ k, (Value.slice A5 pre.length c5).ownBlock = some k → w.heap.size + 4 ≤ k := fun k e => (HAO.out.lt k e).1
      have hK5 : KeepsFrom W0.heap.size W (w4.setCell ⟨w.heap.size + 1, 0, none⟩ (.slice A4 n4 c4)) := HKF.out.trans ((HAO.out.keeps HG4.out).trans (KeepsOthers.setCell _ _ _) |>.from _)
      have b1 := ((hba.kept HG.out (by simp)).kept HG4.out (hN2 _ (by omega))).other (B' := w.heap.size + 1) (by omega) (.slice A4 n4 c4)
      have b2 := ((hbb.kept HG.out (by simp)).kept HG4.out (hN2 _ (by omega))).other (B' := w.heap.size + 1) (by omega) (.slice A4 n4 c4)
      have hS3 : W.heap.size ≤ W'.heap.size := HG.out.size
      refine ⟨hK5, ⟨(((Below.refl _ W).grown HG.out (by omega) (by simp)).grown HG4.out (by omega) (fun k e => by have := hN3 k e; omega)).setCell (p := ⟨w.heap.size + 1, 0, none⟩) (by simp) _, Eq.trans b1 (Eq.symm hba), Eq.trans b2 (Eq.symm hbb)⟩, ⟨_, HB4.out.set _, ?_⟩, ?_, ((hbl.grown HG.out (by omega) (by simp)).grown HG4.out (by omega) (fun k e => by have := hN3 k e; omega)).setCell (p := ⟨w.heap.size + 1, 0, none⟩) (by simp) _, b1, b2⟩
      · rw [List.map_append]
        exact HA4.out.keep (grownBy_setCell' w4 (w.heap.size + 1) _) (fun g hg e => by injection e with e; omega)
      · exact ((hbp.grown HG.out (by simp)).grown HG4.out (hN2 _ (by omega))).grown (grownBy_setCell' w4 (w.heap.size + 1) _) (fun e => by injection e with e; omega)
    case stop2 =>
      rintro c pre' W' _ h
      exact h.elim
  case done =>
    rintro D zs W hD hzs ⟨⟨v, hbo, hao⟩, hbp, hbl, hba, hbb⟩ hK
    have cO := hbo.cell
    rw [map_lists_com p hzs] at hao
    obtain ⟨A3, c3, e3, _, _⟩ := hao.sl.form
    rw [List.length_map] at e3
    subst e3
    gi_wp2
    refine ⟨by simp, .inl ⟨_, _, rfl, run_takeDeferred hK, ?_⟩⟩
    refine ⟨_, results_tmp rfl _ _ _, .slice A3 (zipS f r).length c3, rfl, ?_, ?_⟩
    · exact (hao.sl.keepc (grownBy_putObj' W D _) (fun r e => ⟨.deferred (some []), by cases e; exact hK, rfl⟩)).more (Y := fun g => w.heap.size ≤ g) (fun g _ h => Nat.le_trans (Nat.le_add_right _ 4) h)
    · exact grown_of_below (hbl.trans (belowK_b (w := w) (Nat.le_refl _) W D _ _ (by omega) hK rfl rfl))
  case stop =>
    rintro D c pre W _ _ h _
    exact h.elim
end Go.Proofs.Ytmbbahlenanpfaa
