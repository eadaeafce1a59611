/- pedersen.Matrix, walked. pedersen.Formed: slices.ContainsFunc over numbers and over lists of numbers. pedersen.secrets, all, Formed. share.secrets, small, all, weights, walked. share.all, walked (printed by mk_shrb.py). share.weights, Coms' closures, come over numbers, walked. share.come over numbers, members, walked. share.members, and slices.ContainsFunc at share's closures, walked (printed by mk_shre.py). A pair made in memory. share.Sum's closures, walked (printed by mk_shrf.py). share.come over pairs, walked (printed by mk_shrg.py). share.Sum, walked (printed by mk_shrh.py). fixed.Int, walked. Dealt as data. The draws of a tape, as plain functions: the numbers of its state, which of them are taken, and that one always is. tape's own numbers, walked. tape.New, Of, Next, At, Draws, Copy, walked. -/
import Derived.Test.YtiimippmihkgcaaGreatDoorZ2
import Derived.Deep.DeepCutAuto
import Derived.Deep.LoopGhost
namespace Go.Proofs.YtiimippmihkgcaaGreatDoor
open Go Go.RowKit Go.Shelf

attribute [local go_sem] Oper.semAt_some
def matI (p : Par) (f r : List (List (List Int))) : List (List (List Int)) := (zipS f r).map fun x => comsI p x.1 x.2
abbrev small2 (m : List (List Int)) : Prop := m.length ≤ 100000 ∧ ∀ c ∈ m, c.length ≤ 100000
theorem map_lists_mat (p : Par) {X : Nat → Prop} {w₀ : World} {G : List (List Int) → Prop} {ys : List (SS (encS encU) X w₀ G)} {z : List (List (List Int) × List (List Int))} (h : ys.map SS.lists = z) : ys.map (fun y => comsI p y.lists.1 y.lists.2) = z.map (fun x => comsI p x.1 x.2) := by
  rw [← h, List.map_map]
  rfl
set_option maxRecDepth 100000 in
set_option maxHeartbeats 4000000 in
theorem matrix_in (n : Nat) (hn : 6 ≤ n) (p : Par) (vf vr : Value) (f r : List (List (List Int))) (X : Nat → Prop) (w : World) (hp : p.ok) (hf : Sl (encS (encS encU)) X w vf f) (hr : Sl (encS (encS encU)) X w vr r) (hb1 : f.length ≤ 100000) (hb2 : r.length ≤ 100000) (hb3 : ∀ c ∈ f, small2 c) (hb4 : ∀ c ∈ r, small2 c) :
    CallsIn Fence.wide n Tryz.prog 49 #[p.v, vf, vr] w (Gives (encS (encS encU)) (fun g => w.heap.size ≤ g) w (matI p f r)) := by
  have h1 : 1 ≤ n := by omega
  have HF := Lib.hid hf
  have HR := Lib.hid hr
  have HP := Lib.hid hp
  obtain ⟨A1, c1, rfl, _, _⟩ := hf.form
  obtain ⟨A2, c2, rfl, _, _⟩ := hr.form
  clear hf hr hp
  have HZL : Hid ((zipS f r).length ≤ 100000) := Lib.hid (by simp [zipS]; omega)
  refine callsIn_of_wp_marks Tryz.func49 rfl trivial ?_ rfl
  simp only [Tryz.ntmps49, List.size_toArray, List.length_cons, List.length_nil, Nat.reduceAdd, Nat.reduceSub, Array.replicate_succ, Array.replicate_zero, List.push_toArray, List.append_toArray, List.nil_append, List.cons_append]
  gi_wp2_with (refine ⟨trivial, ?_⟩; refine (callsIn_wide.2 (pairsM_any _ _ _ _ _ _ _)).mono ?_; rintro e w' ⟨rfl, rfl⟩)
  have hs1 : (w.alloc (.cells p.cells 24)).heap.size = w.heap.size + 1 := by simp
  have hs2 : ((w.alloc (.cells p.cells 24)).alloc (.cells #[.slice none 0 0] 45)).heap.size = w.heap.size + 1 + 1 := by simp
  have hs3 : (((w.alloc (.cells p.cells 24)).alloc (.cells #[.slice none 0 0] 45)).alloc (.cells #[.slice A1 f.length c1] 45)).heap.size = w.heap.size + 1 + 1 + 1 := by simp
  have bP : Bk _ w.heap.size 24 p.cells := (((Bk.new w 24 p.cells).alloc (.cells #[.slice none 0 0] 45)).alloc (.cells #[.slice A1 f.length c1] 45)).alloc (.cells #[.slice A2 r.length c2] 45)
  have bO := ((Boxed.new (w.alloc (.cells p.cells 24)) 45 (.slice none 0 0)).alloc (.cells #[.slice A1 f.length c1] 45)).alloc (.cells #[.slice A2 r.length c2] 45)
  have bA := (Boxed.new ((w.alloc (.cells p.cells 24)).alloc (.cells #[.slice none 0 0] 45)) 45 (.slice A1 f.length c1)).alloc (.cells #[.slice A2 r.length c2] 45)
  have bB := Boxed.new (((w.alloc (.cells p.cells 24)).alloc (.cells #[.slice none 0 0] 45)).alloc (.cells #[.slice A1 f.length c1] 45)) 45 (.slice A2 r.length c2)
  rw [hs1] at bO
  rw [hs2] at bA
  rw [hs3] at bB
  have hB0 : Below w.heap.size w ((((w.alloc (.cells p.cells 24)).alloc (.cells #[.slice none 0 0] 45)).alloc (.cells #[.slice A1 f.length c1] 45)).alloc (.cells #[.slice A2 r.length c2] 45)) := below_grown (((World.grownBy_alloc w _ none).trans (World.grownBy_alloc _ _ none)).trans ((World.grownBy_alloc _ _ none).trans (World.grownBy_alloc _ _ none)))
  have hsz : ((((w.alloc (.cells p.cells 24)).alloc (.cells #[.slice none 0 0] 45)).alloc (.cells #[.slice A1 f.length c1] 45)).alloc (.cells #[.slice A2 r.length c2] 45)).heap.size = w.heap.size + 4 := by simp
  obtain ⟨W0, hW0⟩ : ∃ W0, (((w.alloc (.cells p.cells 24)).alloc (.cells #[.slice none 0 0] 45)).alloc (.cells #[.slice A1 f.length c1] 45)).alloc (.cells #[.slice A2 r.length c2] 45) = W0 := ⟨_, rfl⟩
  rw [hW0] at bP bO bA bB hB0 hsz ⊢
  clear hW0 hs1 hs2 hs3
  have HPG : Hid (∀ c ∈ f, small2 c) := Lib.hid hb3
  refine wpIn_rangeFunc_ownH rfl h1 (gf := 123) (lb := #[.pointer (some ⟨w.heap.size + 1 + 1, 0, none⟩), .pointer (some ⟨w.heap.size + 1 + 1 + 1, 0, none⟩)]) rfl trivial (enters_of Tryz.func123 (by kernel_rfl) rfl)
    (pairsM_stops (n - 1) (by omega) (w.heap.size + 1 + 1) (w.heap.size + 1 + 1 + 1) _ _ f r X w W0 small2 ⟨by simp, by simp⟩ hb3 hb4 hB0 bA bB HF.out HR.out) KpAB.trans (KpAB.b (by omega) (by omega) (by omega)) (Below.refl _ _) (fun _ => rfl)
    (fun pre W => (∃ v, Boxed W (w.heap.size + 1) 45 v ∧ Acc (encS (encS encU)) (w.heap.size + 4) 35 (fun g => w.heap.size + 4 ≤ g) W v (pre.map fun x => comsI p x.lists.1 x.lists.2)) ∧ Bk W w.heap.size 24 p.cells ∧ Below w.heap.size w W ∧ Boxed W (w.heap.size + 1 + 1) 45 (.slice A1 f.length c1) ∧ Boxed W (w.heap.size + 1 + 1 + 1) 45 (.slice A2 r.length c2))
    (fun _ _ _ => False)
    (fun pre X Y row hs hg hrow => by
      obtain ⟨⟨v, hb, ha⟩, hk, hB, hb2, hb3⟩ := hs
      have hr' := fun r e => (hrow r e).2
      exact ⟨⟨v, hb.kept hg (boxNe hb hr'), ha.keepc hg hr'⟩, hk.grown hg (cell_ne (hk.cell 0) hr'), hB.grown hg hB.size (fun k e => by have := (hrow k e).1; omega), hb2.kept hg (boxNe hb2 hr'), hb3.kept hg (boxNe hb3 hr')⟩)
    (fun _ _ _ _ _ hs _ _ => hs)
    ⟨⟨_, bO, Acc.nil _ _ _ _ _⟩, bP, hB0, bA, bB⟩
    (fun x a' _ => a' = { tmps := #[p.v, .slice A1 f.length c1, .slice A2 r.length c2, .pointer (some ⟨w.heap.size, 0, none⟩), undef, undef, .slice none 0 0, .pointer (some ⟨w.heap.size + 1, 0, none⟩), x.1.1.1, x.1.2.1, .slice A1 f.length c1, .slice A2 r.length c2, .func (.func 123) #[] #[.pointer (some ⟨w.heap.size + 1 + 1, 0, none⟩), .pointer (some ⟨w.heap.size + 1 + 1 + 1, 0, none⟩)], x.1.1.1, x.1.2.1, undef, undef, undef, undef, undef, undef, undef, undef], defers := [] })
    (fun _ _ _ _ _ _ hs _ _ => hs)
    ?assign ?body ?done ?stop
  case assign =>
    rintro l pre x W K hi hK
    gi_wp2
    exact hK _ _ (KeepsFrom.refl _ _) (KpAB.refl _ _ _ _) hi rfl
  case body =>
    rintro lq pre ⟨⟨⟨v1, l1⟩, ⟨v2, l2⟩⟩, ⟨hv1, hg1⟩, ⟨hv2, hg2⟩⟩ a' W hl _ ⟨⟨v, hbo, hao⟩, hbp, hbl, hba, hbb⟩ rfl hlt
    have k1 : Sl (encS encU) X w v1 l1 := hv1
    have k2 : Sl (encS encU) X w v2 l2 := hv2
    have k3 : l1.length ≤ 100000 ∧ ∀ c ∈ l1, c.length ≤ 100000 := hg1
    have k4 : l2.length ≤ 100000 ∧ ∀ c ∈ l2, c.length ≤ 100000 := hg2
    have hNW := hbl.size
    have HCOM : Hid (∀ w', W.grownBy w' none → Calls Tryz.prog 44 #[p.v, v1, v2] w' (Gives (encS encU) (fun g => w'.heap.size ≤ g) w' (comsI p l1 l2))) := Lib.hid (fun w' hw => callsIn_wide.1 (coms_in 6 (Nat.le_refl _) p v1 v2 l1 l2 X w' HP.out (k1.kept ((grown_of_below hbl).trans hw)) (k2.kept ((grown_of_below hbl).trans hw)) k3.1 k4.1 k3.2 k4.2))
    obtain ⟨D1, d1, rfl, _, _⟩ := k1.form
    obtain ⟨D2, d2, rfl, _, _⟩ := k2.form
    have HPL : Hid (pre.length < 100000) := Lib.hid (Nat.lt_of_lt_of_le hlt HZL.out)
    obtain ⟨A5, c5, e5, _, _⟩ := hao.sl.form
    rw [List.length_map] at e5
    subst e5
    have HAO := Lib.hid hao
    have HDR : Hid (W.grownBy W.drew none) := Lib.hid (grown_drewN' W 1)
    have HBO := Lib.hid hbo
    have hltO : w.heap.size + 1 < W.heap.size := hbo.lt
    have HS0 : Hid (w.heap.size + 4 ≤ W.heap.size) := Lib.hid (by have := hbb.lt; omega)
    have hpr := hbp.prule
    have cO := hbo.cell
    have HLB : Hid (((pre.map fun x : SS (encS encU) X w small2 => comsI p x.lists.1 x.lists.2).length + 1) * 24 ≤ 140737488355328) := Lib.hid (by rw [List.length_map]; have := HPL.out; omega)
    have FIN : ∀ (w3 w4 : World) (A4 : Option Addr) (n4 c4 : Nat), W.grownBy w3 none → w3.grownBy w4 (Value.slice A5 pre.length c5).ownBlock → Acc (encS (encS encU)) (w.heap.size + 4) 35 (fun g => w.heap.size + 4 ≤ g) w3 (.slice A5 pre.length c5) (pre.map fun x : SS (encS encU) X w small2 => comsI p x.lists.1 x.lists.2) → Acc (encS (encS encU)) (w.heap.size + 4) 35 (fun g => w.heap.size + 4 ≤ g) w4 (.slice A4 n4 c4) ((pre.map fun x : SS (encS encU) X w small2 => comsI p x.lists.1 x.lists.2) ++ [comsI p l1 l2]) → Boxed w4 (w.heap.size + 1) 45 (.slice A5 pre.length c5) → (fun w5 : World => KeepsFrom W0.heap.size W w5 ∧ KpAB w.heap.size (w.heap.size + 1 + 1) (w.heap.size + 1 + 1 + 1) W w5 ∧ (∃ u, Boxed w5 (w.heap.size + 1) 45 u ∧ Acc (encS (encS encU)) (w.heap.size + 4) 35 (fun g => w.heap.size + 4 ≤ g) w5 u ((pre ++ [(⟨((.slice D1 l1.length d1, l1), (.slice D2 l2.length d2, l2)), ⟨hv1, hg1⟩, ⟨hv2, hg2⟩⟩ : SS (encS encU) X w small2)]).map fun x => comsI p x.lists.1 x.lists.2)) ∧ Bk w5 w.heap.size 24 p.cells ∧ Below w.heap.size w w5 ∧ Boxed w5 (w.heap.size + 1 + 1) 45 (.slice A1 f.length c1) ∧ Boxed w5 (w.heap.size + 1 + 1 + 1) 45 (.slice A2 r.length c2)) (w4.setCell ⟨w.heap.size + 1, 0, none⟩ (.slice A4 n4 c4)) := by
      intro w3 w4 A4 n4 c4 hG3 hG4 hA3 hA4 hB4
      have hN2 : ∀ k, k < w.heap.size + 4 → some k ≠ (Value.slice A5 pre.length c5).ownBlock := fun k hk e => by have := (hA3.lt k e.symm).1; omega
      have hN3 : ∀ k, (Value.slice A5 pre.length c5).ownBlock = some k → w.heap.size + 4 ≤ k := fun k e => (hA3.lt k e).1
      have hK5 : KeepsOthers W (w4.setCell ⟨w.heap.size + 1, 0, none⟩ (.slice A4 n4 c4)) := ((keeps_none hG3).trans (hA3.keeps hG4)).trans (KeepsOthers.setCell _ _ _)
      have b1 := ((hba.kept hG3 (by simp)).kept hG4 (hN2 _ (by omega))).other (B' := w.heap.size + 1) (by omega) (.slice A4 n4 c4)
      have b2 := ((hbb.kept hG3 (by simp)).kept hG4 (hN2 _ (by omega))).other (B' := w.heap.size + 1) (by omega) (.slice A4 n4 c4)
      have hS3 : W.heap.size ≤ w3.heap.size := hG3.size
      refine ⟨hK5.from _, ⟨(((Below.refl _ W).grown hG3 (by omega) (by simp)).grown hG4 (by omega) (fun k e => by have := hN3 k e; omega)).setCell (p := ⟨w.heap.size + 1, 0, none⟩) (by simp) _, Eq.trans b1 (Eq.symm hba), Eq.trans b2 (Eq.symm hbb)⟩, ⟨_, hB4.set _, ?_⟩, ?_, ((hbl.grown hG3 (by omega) (by simp)).grown hG4 (by omega) (fun k e => by have := hN3 k e; omega)).setCell (p := ⟨w.heap.size + 1, 0, none⟩) (by simp) _, b1, b2⟩
      · rw [List.map_append]
        exact hA4.keep (grownBy_setCell' w4 (w.heap.size + 1) _) (fun g hg e => by injection e with e; omega)
      · exact ((hbp.grown hG3 (by simp)).grown hG4 (hN2 _ (by omega))).grown (grownBy_setCell' w4 (w.heap.size + 1) _) (fun e => by injection e with e; omega)
    clear k1 k2 k3 k4 hlt
    dsimp only
    gi_wp2
    refine wpIn_round_any (l0 := lq) (R := fun _ w5 => KeepsFrom W0.heap.size W w5 ∧ KpAB w.heap.size (w.heap.size + 1 + 1) (w.heap.size + 1 + 1 + 1) W w5 ∧ (∃ u, Boxed w5 (w.heap.size + 1) 45 u ∧ Acc (encS (encS encU)) (w.heap.size + 4) 35 (fun g => w.heap.size + 4 ≤ g) w5 u ((pre ++ [(⟨((.slice D1 l1.length d1, l1), (.slice D2 l2.length d2, l2)), ⟨hv1, hg1⟩, ⟨hv2, hg2⟩⟩ : SS (encS encU) X w small2)]).map fun x => comsI p x.lists.1 x.lists.2)) ∧ Bk w5 w.heap.size 24 p.cells ∧ Below w.heap.size w w5 ∧ Boxed w5 (w.heap.size + 1 + 1) 45 (.slice A1 f.length c1) ∧ Boxed w5 (w.heap.size + 1 + 1 + 1) 45 (.slice A2 r.length c2)) (by kernel_rfl) (by kernel_rfl) (fun a w h => h) ?_
    refine wpAny_take (i := 2) (oi := ({ dst := some 17, op := Op.move (Operand.tmp 8), type := 35, pos := "pedersen.go:80", after := #[], guard := none } : Oper)) (v := ?vq1) rfl (by kernel_rfl) (by kernel_rfl) (by kernel_rfl) (fun _ _ _ h => h) (Or.inl ⟨by rfl, ?hq1⟩) ?rq1
    case hq1 => (intro w; go_simp; first | done | with_reducible rfl)
    try simp only [Act.put, List.setIfInBounds_toArray, List.set_cons_zero, List.set_cons_succ]
    refine wpAny_take (i := 3) (oi := ({ dst := some 18, op := Op.move (Operand.tmp 9), type := 35, pos := "pedersen.go:80", after := #[], guard := none } : Oper)) (v := ?vq2) rfl (by kernel_rfl) (by kernel_rfl) (by kernel_rfl) (fun _ _ _ h => h) (Or.inl ⟨by rfl, ?hq2⟩) ?rq2
    case hq2 => (intro w; go_simp; first | done | with_reducible rfl)
    try simp only [Act.put, List.setIfInBounds_toArray, List.set_cons_zero, List.set_cons_succ]
    refine wpAny_ready (rs := [0, 1]) (by kernel_rfl) (by simp) ?_
    refine AllReady.cons (o := ({ dst := some 15, op := Op.load 45 (Operand.tmp 7), type := 45, pos := "pedersen.go:80", after := #[], guard := none } : Oper)) rfl (fun K hK => ?_) ?_
    · skip
      go_simp
      refine hK _ _ ?_
      clear hK K
      try simp only [Act.put, List.setIfInBounds_toArray, List.set_cons_zero, List.set_cons_succ]
      refine wpAny_ready (rs := [1]) (by kernel_rfl) (by simp) ?_
      refine AllReady.cons (o := ({ dst := some 16, op := Op.load 24 (Operand.tmp 3), type := 24, pos := "pedersen.go:80", after := #[], guard := none } : Oper)) rfl (fun K hK => ?_) AllReady.nil
      go_simp
      refine hK _ _ ?_
      clear hK K
      try simp only [Act.put, List.setIfInBounds_toArray, List.set_cons_zero, List.set_cons_succ]
      refine wpAny_ready (rs := [4]) (by kernel_rfl) (by simp) ?_
      refine AllReady.cons (o := ({ dst := some 19, op := Op.call { callee := Callee.value (Operand.func 44), args := #[Operand.tmp 16, Operand.tmp 17, Operand.tmp 18], argTypes := #[24, 35, 35] }, type := 35, pos := "pedersen.go:80", after := #[{ on := 1, ground := Ground.data }, { on := 2, ground := Ground.data }, { on := 3, ground := Ground.data }], guard := none } : Oper)) rfl (fun K hK => ?_) AllReady.nil
      go_simp
      (go_at_call 44; (with_reducible refine (HCOM.out _ HDR.out).mono ?_); rintro e w3 ⟨v3, rfl, hs3, hg3⟩)
      obtain ⟨A6, c6, e6, _, _⟩ := hs3.form
      generalize (comsI p l1 l2).length = n6 at e6
      subst e6
      have HG3 : Hid (W.grownBy w3 none) := Lib.hid ((grown_drewN' W 1).trans hg3)
      have HA3 := Lib.hid (HAO.out.kept HG3.out)
      have HB3 := Lib.hid (HBO.out.kept HG3.out (by simp))
      have HSZ : Hid (w.heap.size + 4 ≤ w3.heap.size) := Lib.hid (Nat.le_trans HS0.out HG3.out.size)
      have HNX : Hid (∀ g, w3.heap.size ≤ g → w.heap.size + 4 ≤ g) := Lib.hid (fun g hg => Nat.le_trans HSZ.out hg)
      have HNE : Hid (some (w.heap.size + 1) ≠ (Value.slice A5 pre.length c5).ownBlock) := Lib.hid (fun e => by have := (HA3.out.lt _ e.symm).1; omega)
      have HU : Hid (Sl (encS encU) (fun g => w.heap.size + 4 ≤ g ∧ some g ≠ (Value.slice A5 pre.length c5).ownBlock) w3 (.slice A6 n6 c6) (comsI p l1 l2)) := Lib.hid (hs3.more (fun g _ hg => ⟨Nat.le_trans HS0.out hg, fun e => by have h1 := (HAO.out.lt g e.symm).2; have h2 : W.heap.size ≤ g := hg; omega⟩))
      have hc3 := HB3.out.cell
      have hc3a := (HB3.out.alloc (.cells #[.slice A6 n6 c6] 35)).cell
      clear hg3 hs3
      dsimp only
      refine hK _ _ ?_
      clear hK K
      try simp only [Act.put, List.setIfInBounds_toArray, List.set_cons_zero, List.set_cons_succ]
      refine wpAny_ready (rs := [5]) (by kernel_rfl) (by simp) ?_
      refine AllReady.cons (o := ({ dst := some 20, op := Op.buildSlice 45 1 #[(0, Operand.tmp 19)], type := 45, pos := "pedersen.go:80", after := #[{ on := 4, ground := Ground.data }], guard := none } : Oper)) rfl (fun K hK => ?_) AllReady.nil
      go_simp
      refine hK _ _ ?_
      clear hK K
      try simp only [Act.put, List.setIfInBounds_toArray, List.set_cons_zero, List.set_cons_succ]
      refine wpAny_ready (rs := [6]) (by kernel_rfl) (by simp) ?_
      refine AllReady.cons (o := ({ dst := some 21, op := Op.call { callee := Callee.builtin Builtin.append, args := #[Operand.tmp 15, Operand.tmp 20], argTypes := #[45, 45] }, type := 45, pos := "pedersen.go:80", after := #[{ on := 0, ground := Ground.data }, { on := 5, ground := Ground.data }, { on := 4, ground := Ground.chain }], guard := none } : Oper)) rfl (fun K hK => ?_) AllReady.nil
      refine step_push rfl (.tmp 15) (.tmp 20) rfl (E := encS (encS encU)) (y := comsI p l1 l2) el_rows HA3.out rfl rfl ⟨_, rfl, HU.out⟩ HLB.out HSZ.out HNX.out ?_
      intro v4 w4 hacc4 hg4 _
      obtain ⟨A4, c4, e4, _, _⟩ := hacc4.sl.form
      generalize (List.map (fun x : SS (encS encU) X w small2 => comsI p x.lists.1 x.lists.2) pre ++ [comsI p l1 l2]).length = n4 at e4
      subst e4
      have HA4 := Lib.hid hacc4
      have HG4 := Lib.hid hg4
      have hB4 := HB3.out.kept HG4.out HNE.out
      have cB4 := hB4.cell
      have fB4 := hB4.frozen
      have HB4 := Lib.hid hB4
      clear hacc4 hg4 hB4
      refine hK _ _ ?_
      clear hK K
      try simp only [Act.put, List.setIfInBounds_toArray, List.set_cons_zero, List.set_cons_succ]
      refine wpAny_ready (rs := [7]) (by kernel_rfl) (by simp) ?_
      refine AllReady.cons (o := ({ dst := none, op := Op.store 45 (Operand.tmp 7) (Operand.tmp 21), type := 0, pos := "pedersen.go:80", after := #[{ on := 6, ground := Ground.data }, { on := 6, ground := Ground.chain }, { on := 0, ground := Ground.phase }, { on := 1, ground := Ground.phase }, { on := 2, ground := Ground.phase }, { on := 3, ground := Ground.phase }, { on := 4, ground := Ground.phase }, { on := 5, ground := Ground.phase }, { on := 6, ground := Ground.phase }], guard := none } : Oper)) rfl (fun K hK => ?_) AllReady.nil
      go_simp
      refine hK _ _ ?_
      clear hK K
      try simp only [Act.put, List.setIfInBounds_toArray, List.set_cons_zero, List.set_cons_succ]
      refine wpAny_done (by kernel_rfl) ?_ _
      exact ⟨rfl, FIN w3 w4 A4 n4 c4 HG3.out HG4.out HA3.out HA4.out HB4.out⟩
    refine AllReady.cons (o := ({ dst := some 16, op := Op.load 24 (Operand.tmp 3), type := 24, pos := "pedersen.go:80", after := #[], guard := none } : Oper)) rfl (fun K hK => ?_) AllReady.nil
    go_simp
    refine hK _ _ ?_
    clear hK K
    try simp only [Act.put, List.setIfInBounds_toArray, List.set_cons_zero, List.set_cons_succ]
    refine wpAny_ready (rs := [0, 4]) (by kernel_rfl) (by simp) ?_
    refine AllReady.cons (o := ({ dst := some 15, op := Op.load 45 (Operand.tmp 7), type := 45, pos := "pedersen.go:80", after := #[], guard := none } : Oper)) rfl (fun K hK => ?_) ?_
    · skip
      go_simp
      refine hK _ _ ?_
      clear hK K
      try simp only [Act.put, List.setIfInBounds_toArray, List.set_cons_zero, List.set_cons_succ]
      refine wpAny_ready (rs := [4]) (by kernel_rfl) (by simp) ?_
      refine AllReady.cons (o := ({ dst := some 19, op := Op.call { callee := Callee.value (Operand.func 44), args := #[Operand.tmp 16, Operand.tmp 17, Operand.tmp 18], argTypes := #[24, 35, 35] }, type := 35, pos := "pedersen.go:80", after := #[{ on := 1, ground := Ground.data }, { on := 2, ground := Ground.data }, { on := 3, ground := Ground.data }], guard := none } : Oper)) rfl (fun K hK => ?_) AllReady.nil
      go_simp
      (go_at_call 44; (with_reducible refine (HCOM.out _ HDR.out).mono ?_); rintro e w3 ⟨v3, rfl, hs3, hg3⟩)
      obtain ⟨A6, c6, e6, _, _⟩ := hs3.form
      generalize (comsI p l1 l2).length = n6 at e6
      subst e6
      have HG3 : Hid (W.grownBy w3 none) := Lib.hid ((grown_drewN' W 1).trans hg3)
      have HA3 := Lib.hid (HAO.out.kept HG3.out)
      have HB3 := Lib.hid (HBO.out.kept HG3.out (by simp))
      have HSZ : Hid (w.heap.size + 4 ≤ w3.heap.size) := Lib.hid (Nat.le_trans HS0.out HG3.out.size)
      have HNX : Hid (∀ g, w3.heap.size ≤ g → w.heap.size + 4 ≤ g) := Lib.hid (fun g hg => Nat.le_trans HSZ.out hg)
      have HNE : Hid (some (w.heap.size + 1) ≠ (Value.slice A5 pre.length c5).ownBlock) := Lib.hid (fun e => by have := (HA3.out.lt _ e.symm).1; omega)
      have HU : Hid (Sl (encS encU) (fun g => w.heap.size + 4 ≤ g ∧ some g ≠ (Value.slice A5 pre.length c5).ownBlock) w3 (.slice A6 n6 c6) (comsI p l1 l2)) := Lib.hid (hs3.more (fun g _ hg => ⟨Nat.le_trans HS0.out hg, fun e => by have h1 := (HAO.out.lt g e.symm).2; have h2 : W.heap.size ≤ g := hg; omega⟩))
      have hc3 := HB3.out.cell
      have hc3a := (HB3.out.alloc (.cells #[.slice A6 n6 c6] 35)).cell
      clear hg3 hs3
      dsimp only
      refine hK _ _ ?_
      clear hK K
      try simp only [Act.put, List.setIfInBounds_toArray, List.set_cons_zero, List.set_cons_succ]
      refine wpAny_ready (rs := [5]) (by kernel_rfl) (by simp) ?_
      refine AllReady.cons (o := ({ dst := some 20, op := Op.buildSlice 45 1 #[(0, Operand.tmp 19)], type := 45, pos := "pedersen.go:80", after := #[{ on := 4, ground := Ground.data }], guard := none } : Oper)) rfl (fun K hK => ?_) AllReady.nil
      go_simp
      refine hK _ _ ?_
      clear hK K
      try simp only [Act.put, List.setIfInBounds_toArray, List.set_cons_zero, List.set_cons_succ]
      refine wpAny_ready (rs := [6]) (by kernel_rfl) (by simp) ?_
      refine AllReady.cons (o := ({ dst := some 21, op := Op.call { callee := Callee.builtin Builtin.append, args := #[Operand.tmp 15, Operand.tmp 20], argTypes := #[45, 45] }, type := 45, pos := "pedersen.go:80", after := #[{ on := 0, ground := Ground.data }, { on := 5, ground := Ground.data }, { on := 4, ground := Ground.chain }], guard := none } : Oper)) rfl (fun K hK => ?_) AllReady.nil
      refine step_push rfl (.tmp 15) (.tmp 20) rfl (E := encS (encS encU)) (y := comsI p l1 l2) el_rows HA3.out rfl rfl ⟨_, rfl, HU.out⟩ HLB.out HSZ.out HNX.out ?_
      intro v4 w4 hacc4 hg4 _
      obtain ⟨A4, c4, e4, _, _⟩ := hacc4.sl.form
      generalize (List.map (fun x : SS (encS encU) X w small2 => comsI p x.lists.1 x.lists.2) pre ++ [comsI p l1 l2]).length = n4 at e4
      subst e4
      have HA4 := Lib.hid hacc4
      have HG4 := Lib.hid hg4
      have hB4 := HB3.out.kept HG4.out HNE.out
      have cB4 := hB4.cell
      have fB4 := hB4.frozen
      have HB4 := Lib.hid hB4
      clear hacc4 hg4 hB4
      refine hK _ _ ?_
      clear hK K
      try simp only [Act.put, List.setIfInBounds_toArray, List.set_cons_zero, List.set_cons_succ]
      refine wpAny_ready (rs := [7]) (by kernel_rfl) (by simp) ?_
      refine AllReady.cons (o := ({ dst := none, op := Op.store 45 (Operand.tmp 7) (Operand.tmp 21), type := 0, pos := "pedersen.go:80", after := #[{ on := 6, ground := Ground.data }, { on := 6, ground := Ground.chain }, { on := 0, ground := Ground.phase }, { on := 1, ground := Ground.phase }, { on := 2, ground := Ground.phase }, { on := 3, ground := Ground.phase }, { on := 4, ground := Ground.phase }, { on := 5, ground := Ground.phase }, { on := 6, ground := Ground.phase }], guard := none } : Oper)) rfl (fun K hK => ?_) AllReady.nil
      go_simp
      refine hK _ _ ?_
      clear hK K
      try simp only [Act.put, List.setIfInBounds_toArray, List.set_cons_zero, List.set_cons_succ]
      refine wpAny_done (by kernel_rfl) ?_ _
      exact ⟨rfl, FIN w3 w4 A4 n4 c4 HG3.out HG4.out HA3.out HA4.out HB4.out⟩
    refine AllReady.cons (o := ({ dst := some 19, op := Op.call { callee := Callee.value (Operand.func 44), args := #[Operand.tmp 16, Operand.tmp 17, Operand.tmp 18], argTypes := #[24, 35, 35] }, type := 35, pos := "pedersen.go:80", after := #[{ on := 1, ground := Ground.data }, { on := 2, ground := Ground.data }, { on := 3, ground := Ground.data }], guard := none } : Oper)) rfl (fun K hK => ?_) AllReady.nil
    go_simp
    (go_at_call 44; (with_reducible refine (HCOM.out _ HDR.out).mono ?_); rintro e w3 ⟨v3, rfl, hs3, hg3⟩)
    obtain ⟨A6, c6, e6, _, _⟩ := hs3.form
    generalize (comsI p l1 l2).length = n6 at e6
    subst e6
    have HG3 : Hid (W.grownBy w3 none) := Lib.hid ((grown_drewN' W 1).trans hg3)
    have HA3 := Lib.hid (HAO.out.kept HG3.out)
    have HB3 := Lib.hid (HBO.out.kept HG3.out (by simp))
    have HSZ : Hid (w.heap.size + 4 ≤ w3.heap.size) := Lib.hid (Nat.le_trans HS0.out HG3.out.size)
    have HNX : Hid (∀ g, w3.heap.size ≤ g → w.heap.size + 4 ≤ g) := Lib.hid (fun g hg => Nat.le_trans HSZ.out hg)
    have HNE : Hid (some (w.heap.size + 1) ≠ (Value.slice A5 pre.length c5).ownBlock) := Lib.hid (fun e => by have := (HA3.out.lt _ e.symm).1; omega)
    have HU : Hid (Sl (encS encU) (fun g => w.heap.size + 4 ≤ g ∧ some g ≠ (Value.slice A5 pre.length c5).ownBlock) w3 (.slice A6 n6 c6) (comsI p l1 l2)) := Lib.hid (hs3.more (fun g _ hg => ⟨Nat.le_trans HS0.out hg, fun e => by have h1 := (HAO.out.lt g e.symm).2; have h2 : W.heap.size ≤ g := hg; omega⟩))
    have hc3 := HB3.out.cell
    have hc3a := (HB3.out.alloc (.cells #[.slice A6 n6 c6] 35)).cell
    clear hg3 hs3
    dsimp only
    refine hK _ _ ?_
    clear hK K
    try simp only [Act.put, List.setIfInBounds_toArray, List.set_cons_zero, List.set_cons_succ]
    refine wpAny_ready (rs := [0, 5]) (by kernel_rfl) (by simp) ?_
    refine AllReady.cons (o := ({ dst := some 15, op := Op.load 45 (Operand.tmp 7), type := 45, pos := "pedersen.go:80", after := #[], guard := none } : Oper)) rfl (fun K hK => ?_) ?_
    · skip
      go_simp
      refine hK _ _ ?_
      clear hK K
      try simp only [Act.put, List.setIfInBounds_toArray, List.set_cons_zero, List.set_cons_succ]
      refine wpAny_ready (rs := [5]) (by kernel_rfl) (by simp) ?_
      refine AllReady.cons (o := ({ dst := some 20, op := Op.buildSlice 45 1 #[(0, Operand.tmp 19)], type := 45, pos := "pedersen.go:80", after := #[{ on := 4, ground := Ground.data }], guard := none } : Oper)) rfl (fun K hK => ?_) AllReady.nil
      go_simp
      refine hK _ _ ?_
      clear hK K
      try simp only [Act.put, List.setIfInBounds_toArray, List.set_cons_zero, List.set_cons_succ]
      refine wpAny_ready (rs := [6]) (by kernel_rfl) (by simp) ?_
      refine AllReady.cons (o := ({ dst := some 21, op := Op.call { callee := Callee.builtin Builtin.append, args := #[Operand.tmp 15, Operand.tmp 20], argTypes := #[45, 45] }, type := 45, pos := "pedersen.go:80", after := #[{ on := 0, ground := Ground.data }, { on := 5, ground := Ground.data }, { on := 4, ground := Ground.chain }], guard := none } : Oper)) rfl (fun K hK => ?_) AllReady.nil
      refine step_push rfl (.tmp 15) (.tmp 20) rfl (E := encS (encS encU)) (y := comsI p l1 l2) el_rows HA3.out rfl rfl ⟨_, rfl, HU.out⟩ HLB.out HSZ.out HNX.out ?_
      intro v4 w4 hacc4 hg4 _
      obtain ⟨A4, c4, e4, _, _⟩ := hacc4.sl.form
      generalize (List.map (fun x : SS (encS encU) X w small2 => comsI p x.lists.1 x.lists.2) pre ++ [comsI p l1 l2]).length = n4 at e4
      subst e4
      have HA4 := Lib.hid hacc4
      have HG4 := Lib.hid hg4
      have hB4 := HB3.out.kept HG4.out HNE.out
      have cB4 := hB4.cell
      have fB4 := hB4.frozen
      have HB4 := Lib.hid hB4
      clear hacc4 hg4 hB4
      refine hK _ _ ?_
      clear hK K
      try simp only [Act.put, List.setIfInBounds_toArray, List.set_cons_zero, List.set_cons_succ]
      refine wpAny_ready (rs := [7]) (by kernel_rfl) (by simp) ?_
      refine AllReady.cons (o := ({ dst := none, op := Op.store 45 (Operand.tmp 7) (Operand.tmp 21), type := 0, pos := "pedersen.go:80", after := #[{ on := 6, ground := Ground.data }, { on := 6, ground := Ground.chain }, { on := 0, ground := Ground.phase }, { on := 1, ground := Ground.phase }, { on := 2, ground := Ground.phase }, { on := 3, ground := Ground.phase }, { on := 4, ground := Ground.phase }, { on := 5, ground := Ground.phase }, { on := 6, ground := Ground.phase }], guard := none } : Oper)) rfl (fun K hK => ?_) AllReady.nil
      go_simp
      refine hK _ _ ?_
      clear hK K
      try simp only [Act.put, List.setIfInBounds_toArray, List.set_cons_zero, List.set_cons_succ]
      refine wpAny_done (by kernel_rfl) ?_ _
      exact ⟨rfl, FIN w3 w4 A4 n4 c4 HG3.out HG4.out HA3.out HA4.out HB4.out⟩
    refine AllReady.cons (o := ({ dst := some 20, op := Op.buildSlice 45 1 #[(0, Operand.tmp 19)], type := 45, pos := "pedersen.go:80", after := #[{ on := 4, ground := Ground.data }], guard := none } : Oper)) rfl (fun K hK => ?_) AllReady.nil
    go_simp
    refine hK _ _ ?_
    clear hK K
    try simp only [Act.put, List.setIfInBounds_toArray, List.set_cons_zero, List.set_cons_succ]
    refine wpAny_ready (rs := [0]) (by kernel_rfl) (by simp) ?_
    refine AllReady.cons (o := ({ dst := some 15, op := Op.load 45 (Operand.tmp 7), type := 45, pos := "pedersen.go:80", after := #[], guard := none } : Oper)) rfl (fun K hK => ?_) AllReady.nil
    go_simp
    refine hK _ _ ?_
    clear hK K
    try simp only [Act.put, List.setIfInBounds_toArray, List.set_cons_zero, List.set_cons_succ]
    refine wpAny_ready (rs := [6]) (by kernel_rfl) (by simp) ?_
    refine AllReady.cons (o := ({ dst := some 21, op := Op.call { callee := Callee.builtin Builtin.append, args := #[Operand.tmp 15, Operand.tmp 20], argTypes := #[45, 45] }, type := 45, pos := "pedersen.go:80", after := #[{ on := 0, ground := Ground.data }, { on := 5, ground := Ground.data }, { on := 4, ground := Ground.chain }], guard := none } : Oper)) rfl (fun K hK => ?_) AllReady.nil
    refine step_push rfl (.tmp 15) (.tmp 20) rfl (E := encS (encS encU)) (y := comsI p l1 l2) el_rows HA3.out rfl rfl ⟨_, rfl, HU.out⟩ HLB.out HSZ.out HNX.out ?_
    intro v4 w4 hacc4 hg4 _
    obtain ⟨A4, c4, e4, _, _⟩ := hacc4.sl.form
    generalize (List.map (fun x : SS (encS encU) X w small2 => comsI p x.lists.1 x.lists.2) pre ++ [comsI p l1 l2]).length = n4 at e4
    subst e4
    have HA4 := Lib.hid hacc4
    have HG4 := Lib.hid hg4
    have hB4 := HB3.out.kept HG4.out HNE.out
    have cB4 := hB4.cell
    have fB4 := hB4.frozen
    have HB4 := Lib.hid hB4
    clear hacc4 hg4 hB4
    refine hK _ _ ?_
    clear hK K
    try simp only [Act.put, List.setIfInBounds_toArray, List.set_cons_zero, List.set_cons_succ]
    refine wpAny_ready (rs := [7]) (by kernel_rfl) (by simp) ?_
    refine AllReady.cons (o := ({ dst := none, op := Op.store 45 (Operand.tmp 7) (Operand.tmp 21), type := 0, pos := "pedersen.go:80", after := #[{ on := 6, ground := Ground.data }, { on := 6, ground := Ground.chain }, { on := 0, ground := Ground.phase }, { on := 1, ground := Ground.phase }, { on := 2, ground := Ground.phase }, { on := 3, ground := Ground.phase }, { on := 4, ground := Ground.phase }, { on := 5, ground := Ground.phase }, { on := 6, ground := Ground.phase }], guard := none } : Oper)) rfl (fun K hK => ?_) AllReady.nil
    go_simp
    refine hK _ _ ?_
    clear hK K
    try simp only [Act.put, List.setIfInBounds_toArray, List.set_cons_zero, List.set_cons_succ]
    refine wpAny_done (by kernel_rfl) ?_ _
    exact ⟨rfl, FIN w3 w4 A4 n4 c4 HG3.out HG4.out HA3.out HA4.out HB4.out⟩
  case done =>
    rintro D zs W hD hzs ⟨⟨v, hbo, hao⟩, hbp, hbl, hba, hbb⟩ hK
    have cO := hbo.cell
    rw [map_lists_mat p hzs] at hao
    obtain ⟨A3, c3, e3, _, _⟩ := hao.sl.form
    rw [List.length_map] at e3
    subst e3
    gi_wp2
    refine ⟨by simp, .inl ⟨_, _, rfl, run_takeDeferred hK, ?_⟩⟩
    refine ⟨_, results_tmp rfl _ _ _, .slice A3 (zipS f r).length c3, rfl, ?_, ?_⟩
    · exact (hao.sl.keepc (grownBy_putObj' W D _) (fun r e => ⟨.deferred (some []), by cases e; exact hK, rfl⟩)).more (Y := fun g => w.heap.size ≤ g) (fun g _ h => Nat.le_trans (Nat.le_add_right _ 4) h)
    · exact grown_of_below (hbl.trans (belowK_b (w := w) (Nat.le_refl _) W D _ _ (by omega) hK rfl rfl))
  case stop =>
    rintro D c pre W _ _ h _
    exact h.elim
end Go.Proofs.YtiimippmihkgcaaGreatDoor

namespace Go.Proofs.YtiimippmihkgcaaGreatDoor
open Go Go.RowKit

/-- A call that found whether there is one. -/
def FoundB (b : Bool) (w : World) (e : Ending) (w' : World) : Prop := ∃ n : Int, e = .returned (.int .i64 n) ∧ decide (0 ≤ n) = b ∧ I64 n ∧ w.grownBy w' none
set_option maxHeartbeats 400000 in
theorem notIs_any (p : Par) (B : Nat) (x : Int) (w : World) (hp : p.ok) (hb : Bk w B 24 p.cells) (hx : U64 x) :
    Calls Tryz.prog 109 #[.int .u64 x, .pointer (some ⟨B, 0, none⟩)] w fun e w' => e = .returned (.bool (!isB p x)) ∧ w.grownBy w' none := by
  have HC := Lib.hid (is_any p x w hp hx)
  have hpr := hb.prule
  clear hp hb hx
  go_enter Tryz.func109, Tryz.ntmps109
  go_wp2_with fail
  refine HC.out.mono ?_
  rintro e w1 ⟨rfl, hg⟩
  have HG := Lib.hid hg
  clear hg hpr
  go_wp2
  go_ret
  exact ⟨rfl, HG.out⟩
set_option maxHeartbeats 400000 in
theorem indexNot_any (p : Par) (B : Nat) (v : Value) (l : List Int) (X : Nat → Prop) (w : World) (hp : p.ok) (hb : Bk w B 24 p.cells) (h : Sl encU X w v l) :
    Calls Tryz.prog 130 #[v, .func (.func 109) #[] #[.pointer (some ⟨B, 0, none⟩)]] w (FoundB (l.any fun x => !isB p x) w) := by
  have HP := Lib.hid hp
  have HB := Lib.hid hb
  have H := Lib.hid h
  have hl := h.bound
  obtain ⟨A, c, rfl, _, _⟩ := h.form
  clear hp hb h
  go_enter Tryz.func130, Tryz.ntmps130
  go_wp2_with fail
  go_loopg [8] l.length (fun n s8 wx => ∃ j : Nat, j + n = l.length ∧ s8 = .int .i64 j ∧ Hid (w.grownBy wx none ∧ ∀ i (h : i < l.length), i < j → isB p l[i] = true))
  case atStart => exact ⟨0, by omega, rfl, Lib.hid ⟨World.grownBy.refl w none, fun i hi h => absurd h (by omega)⟩⟩
  case round =>
    obtain ⟨j, hj, rfl, HX⟩ := hrel
    cases gk with
    | zero =>
      obtain rfl : j = l.length := by omega
      have HE : Hid (FoundB (l.any fun x => !isB p x) w (.returned (.int .i64 (-1))) wr) := Lib.hid ⟨-1, rfl, by
        have : (l.any fun x => !isB p x) = false := by
          rw [List.any_eq_false]
          intro b hb
          obtain ⟨i, hi, rfl⟩ := List.getElem_of_mem hb
          simp [HX.out.2 i hi hi]
        rw [this]
        rfl, ⟨by decide, by decide⟩, HX.out.1⟩
      clear HX
      go_wp2
      go_ret
      exact HE.out
    | succ k =>
      have hjn : (j : Int) < (l.length : Int) := by omega
      have hjN : j < l.length := by omega
      obtain ⟨g, o, c', e, _, _, hcu, hu⟩ := (H.out.kept HX.out.1).atU hjN
      injection e with e1 e2 e3
      subst e1 e3
      have HC := Lib.hid (notIs_any p B l[j] wr HP.out (HB.out.grown HX.out.1 (by simp)) hu)
      have HV : Hid (isB p l[j] = true ∨ isB p l[j] = false) := Lib.hid (by cases isB p l[j] <;> simp)
      have HR : Hid (isB p l[j] = true → ∀ i (h : i < l.length), i < j + 1 → isB p l[i] = true) := Lib.hid (fun h i hi hl => by
        rcases Nat.lt_or_ge i j with h1 | h1
        · exact HX.out.2 i hi h1
        · obtain rfl : i = j := by omega
          exact h)
      have HN : Hid (isB p l[j] = false → (l.any fun x => !isB p x) = true) := Lib.hid (fun h => List.any_eq_true.2 ⟨_, List.getElem_mem hjN, by simp [h]⟩)
      have HG := Lib.hid HX.out.1
      clear HX hu e2
      generalize isB p l[j] = b at *
      generalize l[j] = x at *
      rcases HV.out with rfl | rfl
      · go_wp2_with fail
        refine HC.out.mono ?_
        rintro e w1 ⟨rfl, hg⟩
        have HG1 := Lib.hid (HG.out.trans hg)
        clear hg
        go_wp2
        go_roundg k
        case measure => omega
        case rel => exact ⟨j + 1, by omega, by go_num, Lib.hid ⟨HG1.out, HR.out (by simp)⟩⟩
      · have HE : Hid (∀ w1, w.grownBy w1 none → FoundB (l.any fun x => !isB p x) w (.returned (.int .i64 j)) w1) := Lib.hid (fun w1 hg => ⟨j, rfl, by rw [HN.out rfl]; simp, ⟨by omega, by omega⟩, hg⟩)
        go_wp2_with fail
        refine HC.out.mono ?_
        rintro e w1 ⟨rfl, hg⟩
        have HG1 := Lib.hid (HG.out.trans hg)
        clear hg
        go_wp2
        go_ret
        exact HE.out _ HG1.out
set_option maxHeartbeats 400000 in
theorem containsNot_any (p : Par) (B : Nat) (v : Value) (l : List Int) (X : Nat → Prop) (w : World) (hp : p.ok) (hb : Bk w B 24 p.cells) (h : Sl encU X w v l) :
    Calls Tryz.prog 108 #[v, .func (.func 109) #[] #[.pointer (some ⟨B, 0, none⟩)]] w fun e w' => e = .returned (.bool (l.any fun x => !isB p x)) ∧ w.grownBy w' none := by
  have HC := Lib.hid (indexNot_any p B v l X w hp hb h)
  obtain ⟨A, c, rfl, _, _⟩ := h.form
  clear hp hb h
  go_enter Tryz.func108, Tryz.ntmps108
  go_wp2_with fail
  refine HC.out.mono ?_
  rintro e w1 ⟨r, rfl, hr, _, hg⟩
  have HG := Lib.hid hg
  have HR := Lib.hid hr
  clear hg hr
  go_wp2
  go_ret
  exact ⟨ret_bool HR.out, HG.out⟩
/-- A list is not as long as that, or not of the group. -/
def rowBad (p : Par) (long : Int) (l : List Int) : Bool := decide ((l.length : Int) ≠ long) || l.any fun x => !isB p x
set_option maxHeartbeats 400000 in
theorem allRow_any (p : Par) (Bn B : Nat) (long : Int) (v : Value) (l : List Int) (X : Nat → Prop) (w : World) (hp : p.ok) (hn : Bk w Bn 3 #[.int .i64 long]) (hb : Bk w B 24 p.cells) (h : Sl encU X w v l) :
    Calls Tryz.prog 107 #[v, .pointer (some ⟨Bn, 0, none⟩), .pointer (some ⟨B, 0, none⟩)] w fun e w' => e = .returned (.bool (rowBad p long l)) ∧ w.grownBy w' none := by
  have HC := Lib.hid (containsNot_any p B v l X w hp hb h)
  have hc := hn.cell 0
  have hc' : w.cell? ⟨Bn, 0, none⟩ = some (.int .i64 long) := hc
  obtain ⟨A, c, rfl, _, _⟩ := h.form
  clear hp hb h hn hc
  by_cases hne : (l.length : Int) = long
  · have HR : Hid (rowBad p long l = l.any fun x => !isB p x) := Lib.hid (by simp [rowBad, hne])
    go_enter Tryz.func107, Tryz.ntmps107
    go_wp2_with fail
    refine HC.out.mono ?_
    rintro e w1 ⟨rfl, hg⟩
    have HG := Lib.hid hg
    clear hg
    go_wp2
    go_ret
    exact ⟨ret_bool HR.out.symm, HG.out⟩
  · have HR : Hid (rowBad p long l = true) := Lib.hid (by simp [rowBad, hne])
    go_enter Tryz.func107, Tryz.ntmps107
    go_wp2
    go_ret
    exact ⟨ret_bool HR.out.symm, World.grownBy.refl w none⟩
set_option maxHeartbeats 400000 in
theorem indexRow_any (p : Par) (Bn B : Nat) (long : Int) (v : Value) (l : List (List Int)) (X : Nat → Prop) (w : World) (hp : p.ok) (hn : Bk w Bn 3 #[.int .i64 long]) (hb : Bk w B 24 p.cells) (h : Sl (encS encU) X w v l) :
    Calls Tryz.prog 103 #[v, .func (.func 107) #[] #[.pointer (some ⟨Bn, 0, none⟩), .pointer (some ⟨B, 0, none⟩)]] w (FoundB (l.any fun x => rowBad p long x) w) := by
  have HP := Lib.hid hp
  have HB := Lib.hid hb
  have HBN := Lib.hid hn
  have H := Lib.hid h
  have hl := h.bound
  obtain ⟨A, c, rfl, _, _⟩ := h.form
  clear hp hb hn h
  go_enter Tryz.func103, Tryz.ntmps103
  go_wp2_with fail
  go_loopg [8] l.length (fun n s8 wx => ∃ j : Nat, j + n = l.length ∧ s8 = .int .i64 j ∧ Hid (w.grownBy wx none ∧ ∀ i (h : i < l.length), i < j → rowBad p long l[i] = false))
  case atStart => exact ⟨0, by omega, rfl, Lib.hid ⟨World.grownBy.refl w none, fun i hi h => absurd h (by omega)⟩⟩
  case round =>
    obtain ⟨j, hj, rfl, HX⟩ := hrel
    cases gk with
    | zero =>
      obtain rfl : j = l.length := by omega
      have HE : Hid (FoundB (l.any fun x => rowBad p long x) w (.returned (.int .i64 (-1))) wr) := Lib.hid ⟨-1, rfl, by
        have : (l.any fun x => rowBad p long x) = false := by
          rw [List.any_eq_false]
          intro b hb
          obtain ⟨i, hi, rfl⟩ := List.getElem_of_mem hb
          simp [HX.out.2 i hi hi]
        rw [this]
        rfl, ⟨by decide, by decide⟩, HX.out.1⟩
      clear HX
      go_wp2
      go_ret
      exact HE.out
    | succ k =>
      have hjn : (j : Int) < (l.length : Int) := by omega
      have hjN : j < l.length := by omega
      obtain ⟨g, o, c', u, e, _, _, hcu, hu⟩ := (H.out.kept HX.out.1).atS hjN
      injection e with e1 e2 e3
      subst e1 e3
      have HC := Lib.hid (allRow_any p Bn B long u l[j] X wr HP.out (HBN.out.grown HX.out.1 (by simp)) (HB.out.grown HX.out.1 (by simp)) hu)
      have HV : Hid (rowBad p long l[j] = false ∨ rowBad p long l[j] = true) := Lib.hid (by cases rowBad p long l[j] <;> simp)
      have HR : Hid (rowBad p long l[j] = false → ∀ i (h : i < l.length), i < j + 1 → rowBad p long l[i] = false) := Lib.hid (fun h i hi hl => by
        rcases Nat.lt_or_ge i j with h1 | h1
        · exact HX.out.2 i hi h1
        · obtain rfl : i = j := by omega
          exact h)
      have HN : Hid (rowBad p long l[j] = true → (l.any fun x => rowBad p long x) = true) := Lib.hid (fun h => List.any_eq_true.2 ⟨_, List.getElem_mem hjN, by simp [h]⟩)
      obtain ⟨A7, c7, e7, _, _⟩ := hu.form
      generalize l[j].length = n7 at e7
      subst e7
      have HG := Lib.hid HX.out.1
      clear HX hu e2
      generalize rowBad p long l[j] = b at *
      generalize l[j] = x at *
      rcases HV.out with rfl | rfl
      · go_wp2_with fail
        refine HC.out.mono ?_
        rintro e w1 ⟨rfl, hg⟩
        have HG1 := Lib.hid (HG.out.trans hg)
        clear hg
        go_wp2
        go_roundg k
        case measure => omega
        case rel => exact ⟨j + 1, by omega, by go_num, Lib.hid ⟨HG1.out, HR.out (by simp)⟩⟩
      · have HE : Hid (∀ w1, w.grownBy w1 none → FoundB (l.any fun x => rowBad p long x) w (.returned (.int .i64 j)) w1) := Lib.hid (fun w1 hg => ⟨j, rfl, by rw [HN.out rfl]; simp, ⟨by omega, by omega⟩, hg⟩)
        go_wp2_with fail
        refine HC.out.mono ?_
        rintro e w1 ⟨rfl, hg⟩
        have HG1 := Lib.hid (HG.out.trans hg)
        clear hg
        go_wp2
        go_ret
        exact HE.out _ HG1.out
set_option maxHeartbeats 400000 in
theorem containsRow_any (p : Par) (Bn B : Nat) (long : Int) (v : Value) (l : List (List Int)) (X : Nat → Prop) (w : World) (hp : p.ok) (hn : Bk w Bn 3 #[.int .i64 long]) (hb : Bk w B 24 p.cells) (h : Sl (encS encU) X w v l) :
    Calls Tryz.prog 57 #[v, .func (.func 107) #[] #[.pointer (some ⟨Bn, 0, none⟩), .pointer (some ⟨B, 0, none⟩)]] w fun e w' => e = .returned (.bool (l.any fun x => rowBad p long x)) ∧ w.grownBy w' none := by
  have HC := Lib.hid (indexRow_any p Bn B long v l X w hp hn hb h)
  obtain ⟨A, c, rfl, _, _⟩ := h.form
  clear hp hb hn h
  go_enter Tryz.func57, Tryz.ntmps57
  go_wp2_with fail
  refine HC.out.mono ?_
  rintro e w1 ⟨r, rfl, hr, _, hg⟩
  have HG := Lib.hid hg
  have HR := Lib.hid hr
  clear hg hr
  go_wp2
  go_ret
  exact ⟨ret_bool HR.out, HG.out⟩
end Go.Proofs.YtiimippmihkgcaaGreatDoor

namespace Go.Proofs.YtiimippmihkgcaaGreatDoor
open Go Go.RowKit

def secretsI (p : Par) : Int := wrap64 (p.K * wrap64 (p.D + 1))
set_option maxHeartbeats 400000 in
theorem secrets_any (p : Par) (w : World) :
    Calls Tryz.prog 68 #[p.v] w fun e w' => e = .returned (.int .i64 (secretsI p)) ∧ w.grownBy w' none := by
  go_enter Tryz.func68, Tryz.ntmps68
  go_wp2
  go_ret
  exact ⟨rfl, World.grownBy_alloc w _ none⟩
/-- As many lists, as long as that, all of the group. -/
def allB (p : Par) (l : List (List Int)) (many long : Int) : Bool := decide ((l.length : Int) = many) && !l.any fun x => rowBad p long x
set_option maxHeartbeats 400000 in
theorem all_any (p : Par) (v : Value) (l : List (List Int)) (many long : Int) (X : Nat → Prop) (w : World) (hp : p.ok) (h : Sl (encS encU) X w v l) :
    Calls Tryz.prog 67 #[p.v, v, .int .i64 many, .int .i64 long] w fun e w' => e = .returned (.bool (allB p l many long)) ∧ w.grownBy w' none := by
  have HB : Hid (Bk ((w.alloc (.cells p.cells 24)).alloc (.cells #[.int .i64 long] 3)) w.heap.size 24 p.cells) := Lib.hid ((Bk.new w _ _).alloc _)
  have HBN : Hid (Bk ((w.alloc (.cells p.cells 24)).alloc (.cells #[.int .i64 long] 3)) (w.heap.size + 1) 3 #[.int .i64 long]) := Lib.hid (by have := Bk.new (w.alloc (.cells p.cells 24)) 3 #[.int .i64 long]; simpa using this)
  have HG : Hid (w.grownBy ((w.alloc (.cells p.cells 24)).alloc (.cells #[.int .i64 long] 3)) none) := Lib.hid ((World.grownBy_alloc w _ none).trans (World.grownBy_alloc _ _ none))
  have HC := Lib.hid (containsRow_any p (w.heap.size + 1) w.heap.size long v l X _ hp HBN.out HB.out (h.kept HG.out))
  obtain ⟨A, c, rfl, _, _⟩ := h.form
  clear hp h HB HBN
  by_cases hne : (l.length : Int) = many
  · have HR : Hid (allB p l many long = !l.any fun x => rowBad p long x) := Lib.hid (by simp [allB, hne])
    go_enter Tryz.func67, Tryz.ntmps67
    go_wp2_with fail
    refine HC.out.mono ?_
    rintro e w1 ⟨rfl, hg⟩
    have HG1 := Lib.hid (HG.out.trans hg)
    clear hg
    go_wp2
    go_ret
    exact ⟨ret_bool HR.out.symm, HG1.out⟩
  · have HR : Hid (allB p l many long = false) := Lib.hid (by simp [allB, hne])
    go_enter Tryz.func67, Tryz.ntmps67
    go_wp2
    go_ret
    exact ⟨ret_bool HR.out.symm, HG.out⟩
def formedB (p : Par) (l : List (List Int)) : Bool := allB p l (secretsI p) (IntKind.i64.wrap (p.T + 1))
set_option maxHeartbeats 400000 in
theorem formed_any (p : Par) (v : Value) (l : List (List Int)) (X : Nat → Prop) (w : World) (hp : p.ok) (h : Sl (encS encU) X w v l) :
    Calls Tryz.prog 14 #[p.v, v] w fun e w' => e = .returned (.bool (formedB p l)) ∧ w.grownBy w' none := by
  have HP := Lib.hid hp
  have H := Lib.hid h
  obtain ⟨A, c, rfl, _, _⟩ := h.form
  have HGw : Hid (w.grownBy (w.alloc (.cells p.cells 24)).drew none) := Lib.hid ((World.grownBy_alloc w _ none).trans (grown_drewN' _ 1))
  have HBw : Hid (Bk (w.alloc (.cells p.cells 24)).drew w.heap.size 24 p.cells) := Lib.hid (Bk.new w _ _)
  clear hp h
  go_enter Tryz.func14, Tryz.ntmps14
  go_wp2_with fail
  go_region_held3 (fun w' => ∀ o, w'.cell? ⟨w.heap.size, o, none⟩ = (#[.int .u64 p.P, .int .u64 p.Q, .int .u64 p.G, .int .u64 p.H, .int .i64 p.Nodes, .int .i64 p.N, .int .i64 p.T, .int .i64 p.K, .int .i64 p.D, .int .i64 p.R, .int .i64 p.M, .int .i64 p.X] : Array Value)[o]?) (first | assumption | exact (Bk.new w 24 p.cells).prule | go_keep)
    (first
    | (go_at_call 68; (with_reducible refine (secrets_any p _).mono ?_); rintro e w1 ⟨rfl, hg⟩; have HG1 := Lib.hid (HGw.out.trans hg); have HB1 := Lib.hid (HBw.out.grown hg (by simp)); have hpx := HB1.out.prule; clear hg)
    | (go_at_call 67; (with_reducible refine (all_any p _ l _ _ X _ HP.out (H.out.kept HG1.out)).mono ?_); rintro e w2 ⟨rfl, hg⟩; have HG2 := Lib.hid (HG1.out.trans hg); have hpy := (HB1.out.grown hg (by simp)).prule; clear hg))
  go_wp2
  go_ret
  exact ⟨rfl, HG2.out⟩
end Go.Proofs.YtiimippmihkgcaaGreatDoor

namespace Go.Proofs.YtiimippmihkgcaaGreatDoor
open Go Go.RowKit Go.Shelf

theorem ssecrets_any (p : Par) (w : World) :
    Calls Tryz.prog 56 #[p.v] w fun e w' => e = .returned (.int .i64 (secretsI p)) ∧ w.grownBy w' none := by
  go_enter Tryz.func56, Tryz.ntmps56
  go_wp2
  go_ret
  exact ⟨rfl, World.grownBy_alloc w _ none⟩
/-- Whether K and D are within their bounds. -/
def smallB (p : Par) : Bool := decide (0 ≤ p.K ∧ 0 ≤ p.D ∧ p.K ≤ 2 ∧ p.D ≤ 4)
set_option maxHeartbeats 1000000 in
theorem ssmall_any (p : Par) (w : World) :
    Calls Tryz.prog 54 #[p.v] w fun e w' => e = .returned (.bool (smallB p)) ∧ w.grownBy w' none := by
  obtain ⟨b, hb⟩ : ∃ b, b = smallB p := ⟨_, rfl⟩
  have HB : Hid ((b = true) = (0 ≤ p.K ∧ 0 ≤ p.D ∧ p.K ≤ 2 ∧ p.D ≤ 4)) := Lib.hid (by rw [hb, smallB]; simp)
  rw [← hb]
  clear hb
  by_cases h0 : 0 ≤ min p.K p.D
  · have d0 : decide (min p.K p.D ≥ 0) = true := by simpa using h0
    by_cases h1 : p.K ≤ 2
    · have d1 : decide (p.K ≤ 2) = true := by simpa using h1
      by_cases h2 : p.D ≤ 4
      · have d2 : decide (p.D ≤ 4) = true := by simpa using h2
        obtain rfl : b = true := by rw [HB.out]; omega
        clear h0 h1 h2 HB
        go_enter Tryz.func54, Tryz.ntmps54
        go_wp2
        go_ret
        exact ⟨by simp [*], World.grownBy_alloc w _ none⟩
      · have d2 : decide (p.D ≤ 4) = false := by simpa using h2
        obtain rfl : b = false := by rw [← Bool.not_eq_true, HB.out]; omega
        clear h0 h1 h2 HB
        go_enter Tryz.func54, Tryz.ntmps54
        go_wp2
        go_ret
        exact ⟨by simp [*], World.grownBy_alloc w _ none⟩
    · have d1 : decide (p.K ≤ 2) = false := by simpa using h1
      obtain rfl : b = false := by rw [← Bool.not_eq_true, HB.out]; omega
      clear h0 h1 HB
      go_enter Tryz.func54, Tryz.ntmps54
      go_wp2
      go_ret
      exact ⟨by simp [*], World.grownBy_alloc w _ none⟩
  · have d0 : decide (min p.K p.D ≥ 0) = false := by simpa using h0
    obtain rfl : b = false := by rw [← Bool.not_eq_true, HB.out]; omega
    clear h0 HB
    go_enter Tryz.func54, Tryz.ntmps54
    go_wp2
    go_ret
    exact ⟨by simp [*], World.grownBy_alloc w _ none⟩
end Go.Proofs.YtiimippmihkgcaaGreatDoor

namespace Go.Proofs.YtiimippmihkgcaaGreatDoor
open Go Go.RowKit Go.Shelf

set_option maxRecDepth 100000 in
set_option maxHeartbeats 400000 in
theorem allU_any (v : Value) (ls : List (List Int)) (s : Nat) (X : Nat → Prop) (w : World) (h : Sl (encS encU) X w v ls) (hs : ∀ x ∈ ls, s < x.length) (hb : ls.length ≤ 100000) (hb2 : s ≤ 100000) :
    Calls Tryz.prog 65 #[v, .int .i64 s] w (Gives encU (fun g => w.heap.size ≤ g) w (ls.map fun x => x[s]?.getD 0)) := by
  have H := Lib.hid h
  have HS := Lib.hid hs
  have HB := Lib.hid hb
  obtain ⟨A, c, rfl, hc1, hc2⟩ := h.form
  have hs0 : (0 : Int) ≤ (s : Int) := by omega
  clear h hs hb
  go_enter Tryz.func65, Tryz.ntmps65
  go_wp2_with fail
  go_loopg [5, 10] ls.length (fun g s5 s10 wx => ∃ j : Nat, j + g = ls.length ∧ s10 = .int .i64 j ∧ Hid (Acc encU w.heap.size 22 (fun g => w.heap.size ≤ g) wx s5 ((ls.take j).map fun x => x[s]?.getD 0) ∧ w.grownBy wx none))
  case atStart => exact ⟨0, by omega, rfl, Lib.hid ⟨Acc.nil _ _ _ _ _, World.grownBy.refl _ none⟩⟩
  case round =>
    obtain ⟨j, hj, rfl, HX⟩ := hrel
    cases gk with
    | zero =>
      obtain rfl : j = ls.length := by omega
      have HR : Hid (Sl encU (fun g => w.heap.size ≤ g) wr u5 (ls.map fun x => x[s]?.getD 0) ∧ w.grownBy wr none) := Lib.hid ⟨by have := HX.out.1.sl; rwa [List.take_length] at this, HX.out.2⟩
      clear HX
      go_wp2
      go_ret
      exact ⟨_, rfl, HR.out.1, HR.out.2⟩
    | succ m =>
      have hjn : (j : Int) < (ls.length : Int) := by omega
      have hjN : j < ls.length := by omega
      obtain ⟨hacc, hg⟩ := HX.out
      obtain ⟨g, o, c', u, e, _, _, hcu0, hsu⟩ := H.out.atS hjN
      injection e with e1 e2 e3
      subst e1 e3
      have hcu : wr.cell? ⟨g, o + j, none⟩ = some u := cell_kept hcu0 hg (by simp)
      have hsl : s < ls[j].length := HS.out _ (List.getElem_mem hjN)
      have hslI : (s : Int) < (ls[j].length : Int) := by omega
      obtain ⟨A1, c1, e1, hc3, hc4⟩ := hsu.form
      subst e1
      obtain ⟨g2, o2, c2, e2, _, _, hcx, hux⟩ := (hsu.kept hg).atU hsl
      injection e2 with e21 e22 e23
      subst e21 e23
      have HREP : Hid (encU.rep (fun g => (fun g => w.heap.size ≤ g) g ∧ some g ≠ u5.ownBlock) wr [.int .u64 ls[j][s]] ls[j][s]) := Lib.hid ⟨rfl, hux⟩
      have HSN : Hid ((ls.take (j + 1)).map (fun x => x[s]?.getD 0) = (ls.take j).map (fun x => x[s]?.getD 0) ++ [ls[j][s]]) := Lib.hid (by rw [List.take_succ_eq_append_getElem hjN, List.map_append]; simp [hsl])
      have HAC := Lib.hid hacc
      have HG := Lib.hid hg
      have HLB : Hid ((((ls.take j).map fun x => x[s]?.getD 0).length + 1) * 8 ≤ 140737488355328) := Lib.hid (by have := HB.out; simp; omega)
      clear hacc hg hsu HX hcu0 hux
      generalize ls[j][s] = y at *
      generalize ls[j].length = n1 at *
      go_wp2_with (at_builtin; refine wpList_pushG rfl (.tmp 14) (.tmp 19) rfl (E := encU) el_u64 HG.out HAC.out (fun _ h => h) HREP.out HLB.out rfl rfl ?_)
      intro v2 w2 hacc2 hg2 hgo
      have HFIN : Hid (Acc encU w.heap.size 22 (fun g => w.heap.size ≤ g) w2 v2 ((ls.take (j + 1)).map fun x => x[s]?.getD 0) ∧ w.grownBy w2 none) := Lib.hid ⟨by rw [HSN.out]; simpa using hacc2, hg2⟩
      clear hacc2 hg2 hgo
      go_wp2_with fail
      go_roundg m
      case measure => omega
      case rel => exact ⟨j + 1, by omega, by go_num, HFIN⟩
set_option maxRecDepth 100000 in
set_option maxHeartbeats 400000 in
theorem allS_any (v : Value) (ls : List (List (List Int))) (s : Nat) (X : Nat → Prop) (w : World) (h : Sl (encS (encS encU)) X w v ls) (hs : ∀ x ∈ ls, s < x.length) (hb : ls.length ≤ 100000) (hb2 : s ≤ 100000) :
    Calls Tryz.prog 66 #[v, .int .i64 s] w (Gives (encS encU) (fun g => X g ∨ w.heap.size ≤ g) w (ls.map fun x => x[s]?.getD [])) := by
  have H := Lib.hid h
  have HS := Lib.hid hs
  have HB := Lib.hid hb
  obtain ⟨A, c, rfl, hc1, hc2⟩ := h.form
  have hs0 : (0 : Int) ≤ (s : Int) := by omega
  clear h hs hb
  go_enter Tryz.func66, Tryz.ntmps66
  go_wp2_with fail
  go_loopg [5, 10] ls.length (fun g s5 s10 wx => ∃ j : Nat, j + g = ls.length ∧ s10 = .int .i64 j ∧ Hid (Acc (encS encU) w.heap.size 39 (fun g => X g ∨ w.heap.size ≤ g) wx s5 ((ls.take j).map fun x => x[s]?.getD []) ∧ w.grownBy wx none))
  case atStart => exact ⟨0, by omega, rfl, Lib.hid ⟨Acc.nil _ _ _ _ _, World.grownBy.refl _ none⟩⟩
  case round =>
    obtain ⟨j, hj, rfl, HX⟩ := hrel
    cases gk with
    | zero =>
      obtain rfl : j = ls.length := by omega
      have HR : Hid (Sl (encS encU) (fun g => X g ∨ w.heap.size ≤ g) wr u5 (ls.map fun x => x[s]?.getD []) ∧ w.grownBy wr none) := Lib.hid ⟨by have := HX.out.1.sl; rwa [List.take_length] at this, HX.out.2⟩
      clear HX
      go_wp2
      go_ret
      exact ⟨_, rfl, HR.out.1, HR.out.2⟩
    | succ m =>
      have hjn : (j : Int) < (ls.length : Int) := by omega
      have hjN : j < ls.length := by omega
      obtain ⟨hacc, hg⟩ := HX.out
      obtain ⟨g, o, c', u, e, _, _, hcu0, hsu⟩ := H.out.atS hjN
      injection e with e1 e2 e3
      subst e1 e3
      have hcu : wr.cell? ⟨g, o + j, none⟩ = some u := cell_kept hcu0 hg (by simp)
      have hsl : s < ls[j].length := HS.out _ (List.getElem_mem hjN)
      have hslI : (s : Int) < (ls[j].length : Int) := by omega
      obtain ⟨A1, c1, e1, hc3, hc4⟩ := hsu.form
      subst e1
      obtain ⟨g2, o2, c2, ux, e2, _, _, hcx, hux⟩ := (hsu.kept hg).atS hsl
      obtain ⟨_, _, _, ux', e2', _, _, hcx', hux'⟩ := hsu.atS hsl
      injection e2 with e21 e22 e23
      subst e21 e23
      injection e2' with e21 e22 e23
      injection e21 with e21
      injection e21 with e24 e25
      subst e24 e25
      have hcx2 : wr.cell? ⟨g2, o2 + s, none⟩ = some ux' := cell_kept hcx' hg (by simp)
      obtain rfl : ux = ux' := by rw [hcx] at hcx2; injection hcx2
      obtain ⟨A2, c3, e3, _, _⟩ := hux'.form
      subst e3
      have HREP : Hid ((encS encU).rep (fun g => (fun g => X g ∨ w.heap.size ≤ g) g ∧ some g ≠ u5.ownBlock) wr [.slice A2 ls[j][s].length c3] ls[j][s]) := Lib.hid ⟨_, rfl, (hux'.more fun g hlt hX => ⟨.inl hX, fun e => by have := (hacc.lt g e.symm).1; omega⟩).kept hg⟩
      have HSN : Hid ((ls.take (j + 1)).map (fun x => x[s]?.getD []) = (ls.take j).map (fun x => x[s]?.getD []) ++ [ls[j][s]]) := Lib.hid (by rw [List.take_succ_eq_append_getElem hjN, List.map_append]; simp [hsl])
      have HAC := Lib.hid hacc
      have HG := Lib.hid hg
      have HLB : Hid ((((ls.take j).map fun x => x[s]?.getD []).length + 1) * 24 ≤ 140737488355328) := Lib.hid (by have := HB.out; simp; omega)
      clear hacc hg hsu HX hcu0 hux hux' hcx' hcx2
      generalize ls[j][s] = y at *
      generalize ls[j].length = n1 at *
      go_wp2_with (at_builtin; refine wpList_pushG rfl (.tmp 14) (.tmp 19) rfl (E := (encS encU)) el_nums HG.out HAC.out (fun _ h => .inr h) HREP.out HLB.out rfl rfl ?_)
      intro v2 w2 hacc2 hg2 hgo
      have HFIN : Hid (Acc (encS encU) w.heap.size 39 (fun g => X g ∨ w.heap.size ≤ g) w2 v2 ((ls.take (j + 1)).map fun x => x[s]?.getD []) ∧ w.grownBy w2 none) := Lib.hid ⟨by rw [HSN.out]; simpa using hacc2, hg2⟩
      clear hacc2 hg2 hgo
      go_wp2_with fail
      go_roundg m
      case measure => omega
      case rel => exact ⟨j + 1, by omega, by go_num, HFIN⟩
set_option maxRecDepth 100000 in
set_option maxHeartbeats 400000 in
theorem allP_any (v : Value) (ls : List (List (Int × Int))) (s : Nat) (X : Nat → Prop) (w : World) (h : Sl (encS encP) X w v ls) (hs : ∀ x ∈ ls, s < x.length) (hb : ls.length ≤ 100000) (hb2 : s ≤ 100000) :
    Calls Tryz.prog 81 #[v, .int .i64 s] w (Gives encP (fun g => w.heap.size ≤ g) w (ls.map fun x => x[s]?.getD (0, 0))) := by
  have H := Lib.hid h
  have HS := Lib.hid hs
  have HB := Lib.hid hb
  obtain ⟨A, c, rfl, hc1, hc2⟩ := h.form
  have hs0 : (0 : Int) ≤ (s : Int) := by omega
  clear h hs hb
  go_enter Tryz.func81, Tryz.ntmps81
  go_wp2_with fail
  go_loopg [5, 10] ls.length (fun g s5 s10 wx => ∃ j : Nat, j + g = ls.length ∧ s10 = .int .i64 j ∧ Hid (Acc encP w.heap.size 70 (fun g => w.heap.size ≤ g) wx s5 ((ls.take j).map fun x => x[s]?.getD (0, 0)) ∧ w.grownBy wx none))
  case atStart => exact ⟨0, by omega, rfl, Lib.hid ⟨Acc.nil _ _ _ _ _, World.grownBy.refl _ none⟩⟩
  case round =>
    obtain ⟨j, hj, rfl, HX⟩ := hrel
    cases gk with
    | zero =>
      obtain rfl : j = ls.length := by omega
      have HR : Hid (Sl encP (fun g => w.heap.size ≤ g) wr u5 (ls.map fun x => x[s]?.getD (0, 0)) ∧ w.grownBy wr none) := Lib.hid ⟨by have := HX.out.1.sl; rwa [List.take_length] at this, HX.out.2⟩
      clear HX
      go_wp2
      go_ret
      exact ⟨_, rfl, HR.out.1, HR.out.2⟩
    | succ m =>
      have hjn : (j : Int) < (ls.length : Int) := by omega
      have hjN : j < ls.length := by omega
      obtain ⟨hacc, hg⟩ := HX.out
      obtain ⟨g, o, c', u, e, _, _, hcu0, hsu⟩ := H.out.atS hjN
      injection e with e1 e2 e3
      subst e1 e3
      have hcu : wr.cell? ⟨g, o + j, none⟩ = some u := cell_kept hcu0 hg (by simp)
      have hsl : s < ls[j].length := HS.out _ (List.getElem_mem hjN)
      have hslI : (s : Int) < (ls[j].length : Int) := by omega
      obtain ⟨A1, c1, e1, hc3, hc4⟩ := hsu.form
      subst e1
      obtain ⟨g2, o2, c2, e2, _, _, hcx, hcx2, hux⟩ := (hsu.kept hg).atP hsl
      injection e2 with e21 e22 e23
      subst e21 e23
      have HREP : Hid (encP.rep (fun g => (fun g => w.heap.size ≤ g) g ∧ some g ≠ u5.ownBlock) wr [.int .u64 ls[j][s].1, .int .u64 ls[j][s].2] ls[j][s]) := Lib.hid ⟨rfl, hux⟩
      have HSN : Hid ((ls.take (j + 1)).map (fun x => x[s]?.getD (0, 0)) = (ls.take j).map (fun x => x[s]?.getD (0, 0)) ++ [ls[j][s]]) := Lib.hid (by rw [List.take_succ_eq_append_getElem hjN, List.map_append]; simp [hsl])
      have HAC := Lib.hid hacc
      have HG := Lib.hid hg
      have HLB : Hid ((((ls.take j).map fun x => x[s]?.getD (0, 0)).length + 1) * 16 ≤ 140737488355328) := Lib.hid (by have := HB.out; simp; omega)
      clear hacc hg hsu HX hcu0 hux
      generalize ls[j][s] = y at *
      generalize ls[j].length = n1 at *
      go_wp2_with (at_builtin; refine wpList_pushG rfl (.tmp 14) (.tmp 19) rfl (E := encP) el_pair HG.out HAC.out (fun _ h => h) HREP.out HLB.out rfl rfl ?_)
      intro v2 w2 hacc2 hg2 hgo
      have HFIN : Hid (Acc encP w.heap.size 70 (fun g => w.heap.size ≤ g) w2 v2 ((ls.take (j + 1)).map fun x => x[s]?.getD (0, 0)) ∧ w.grownBy w2 none) := Lib.hid ⟨by rw [HSN.out]; simpa using hacc2, hg2⟩
      clear hacc2 hg2 hgo
      go_wp2_with fail
      go_roundg m
      case measure => omega
      case rel => exact ⟨j + 1, by omega, by go_num, HFIN⟩
end Go.Proofs.YtiimippmihkgcaaGreatDoor

namespace Go.Proofs.YtiimippmihkgcaaGreatDoor
open Go Go.RowKit Go.Shelf

set_option maxRecDepth 100000 in
set_option maxHeartbeats 400000 in
theorem sweights_any (v : Value) (at_ : List Int) (q : Int) (X : Nat → Prop) (w : World) (h : Sl encI X w v at_) (hm : ∀ i ∈ at_, 1 ≤ i ∧ i ≤ 7) (hq : U64 q) (hb : at_.length ≤ 100000) :
    Calls Tryz.prog 59 #[v, .int .u64 q] w (GivesE encU (fun g => w.heap.size ≤ g) w (wList q at_ 0) (wErr q at_ 0)) := by
  have H := Lib.hid h
  have HM := Lib.hid hm
  have HQ := Lib.hid hq
  have HB := Lib.hid hb
  obtain ⟨A, c, rfl, hc1, hc2⟩ := h.form
  clear h hm hq hb
  go_enter Tryz.func59, Tryz.ntmps59
  go_wp2_with fail
  go_loopg [6, 11] at_.length (fun g s6 s11 wx => ∃ j : Nat, j + g = at_.length ∧ s11 = .int .i64 j ∧ Hid (Acc encU w.heap.size 22 (fun g => w.heap.size ≤ g) wx s6 (at_.take j) ∧ w.grownBy wx none))
  case atStart => exact ⟨0, by omega, rfl, Lib.hid ⟨Acc.nil _ _ _ _ _, World.grownBy.refl _ none⟩⟩
  case round =>
    obtain ⟨j, hj, rfl, HX⟩ := hrel
    cases gk with
    | zero =>
      obtain rfl : j = at_.length := by omega
      have HR : Hid (Sl encU (fun g => w.heap.size ≤ g) wr u6 at_ ∧ w.grownBy wr none) := Lib.hid ⟨by have := HX.out.1.sl; rwa [List.take_length] at this, HX.out.2⟩
      have HW := Lib.hid (weights_any u6 at_ 0 q _ wr HR.out.1 ⟨by decide, by decide⟩ HQ.out)
      have HS := Lib.hid HR.out.2.size
      clear HX
      go_wp2_with fail
      refine HW.out.mono ?_
      rintro e w1 ⟨v1, rfl, hs1, hg1⟩
      have HF : Hid (Sl encU (fun g => w.heap.size ≤ g) w1 v1 (wList q at_ 0) ∧ w.grownBy w1 none) := Lib.hid ⟨hs1.more fun g _ h => Nat.le_trans HS.out h, HR.out.2.trans hg1⟩
      clear hs1 hg1
      go_wp2
      go_ret2
      exact ⟨_, rfl, HF.out.1, HF.out.2⟩
    | succ m =>
      have hjn : (j : Int) < (at_.length : Int) := by omega
      have hjN : j < at_.length := by omega
      obtain ⟨hacc, hg⟩ := HX.out
      obtain ⟨g, o, c', e, _, _, hcu, _⟩ := (H.out.kept hg).atI hjN
      injection e with e1 e2 e3
      subst e1 e3
      have hi := HM.out _ (List.getElem_mem hjN)
      have HSN : Hid (at_.take (j + 1) = at_.take j ++ [at_[j]]) := Lib.hid (List.take_succ_eq_append_getElem hjN)
      have HU : Hid (U64 at_[j]) := Lib.hid ⟨by omega, by omega⟩
      have HAC := Lib.hid hacc
      have HG := Lib.hid hg
      have HLB : Hid (((at_.take j).length + 1) * 8 ≤ 140737488355328) := Lib.hid (by have := HB.out; simp; omega)
      clear hacc hg HX
      obtain ⟨hi1, hi2⟩ := hi
      generalize at_[j] = y at *
      have hcv : IntKind.u64.wrap y = y := IntWalk.u64_in _ (by omega)
      generalize at_.length = n at *
      go_wp2_with (at_builtin; refine wpList_pushG rfl (.tmp 15) (.tmp 18) rfl (E := encU) el_u64 HG.out HAC.out (fun _ h => h) ⟨rfl, HU.out⟩ HLB.out rfl rfl ?_)
      intro v2 w2 hacc2 hg2 hgo
      have HFIN : Hid (Acc encU w.heap.size 22 (fun g => w.heap.size ≤ g) w2 v2 (at_.take (j + 1)) ∧ w.grownBy w2 none) := Lib.hid ⟨by rw [HSN.out]; simpa using hacc2, hg2⟩
      clear hacc2 hg2 hgo
      go_wp2_with fail
      go_roundg m
      case measure => omega
      case rel => exact ⟨j + 1, by omega, by go_num, HFIN⟩
/-- Coms' closures. -/
theorem coms2_any (p : Par) (gp : Nat) (x k : Int) (w : World) (hb : Bk w gp 24 p.cells) (hx : U64 x) (hk : U64 k) :
    Calls Tryz.prog 60 #[.int .u64 x, .int .u64 k, .pointer (some ⟨gp, 0, none⟩)] w fun e w' => e = .returned (.int .u64 (powI x k p.P)) ∧ w.grownBy w' none := by
  have HPW := Lib.hid (power_any p x k w hx hk)
  have hp := hb.prule
  clear hb hx hk
  go_enter Tryz.func60, Tryz.ntmps60
  go_wp2_with fail
  refine HPW.out.mono ?_
  rintro e w1 ⟨rfl, hg⟩
  have HG := Lib.hid hg
  clear hg hp
  go_wp2
  go_ret
  exact ⟨rfl, HG.out⟩
theorem coms3_any (p : Par) (gp : Nat) (a b : Int) (w : World) (hb : Bk w gp 24 p.cells) (ha : U64 a) (hbb : U64 b) :
    Calls Tryz.prog 62 #[.int .u64 a, .int .u64 b, .pointer (some ⟨gp, 0, none⟩)] w fun e w' => e = .returned (.int .u64 (timesI p.P [a, b])) ∧ w.grownBy w' none := by
  have HTW := Lib.hid (times_two p a b w ha hbb)
  have hp := hb.prule
  clear hb ha hbb
  go_enter Tryz.func62, Tryz.ntmps62
  go_wp2_with fail
  refine HTW.out.mono ?_
  rintro e w1 ⟨rfl, hg⟩
  have HG := Lib.hid hg
  clear hg hp
  go_wp2
  go_ret
  exact ⟨rfl, HG.out⟩
/-- What numbers come to. -/
def comeU (P : Int) : List Int → List Int → Int → Int
  | x :: l, k :: ks, a => comeU P l ks (timesI P [a, powI x k P])
  | _, _, a => a
theorem comeU_snoc (P : Int) : ∀ (l ks : List Int) (a : Int) (j : Nat) (h : j < l.length) (h' : j < ks.length), comeU P (l.take (j + 1)) (ks.take (j + 1)) a = timesI P [comeU P (l.take j) (ks.take j) a, powI l[j] ks[j] P]
  | x :: l, k :: ks, a, 0, _, _ => by simp [comeU]
  | x :: l, k :: ks, a, j + 1, h, h' => by
    simp only [List.take_succ_cons, comeU, List.getElem_cons_succ]
    exact comeU_snoc P l ks _ j (by simpa using h) (by simpa using h')
end Go.Proofs.YtiimippmihkgcaaGreatDoor

namespace Go.Proofs.YtiimippmihkgcaaGreatDoor
open Go Go.RowKit Go.Shelf

theorem comeU_U64 (P : Int) (hU : ∀ l, U64 (timesI P l)) : ∀ (l ks : List Int) (a : Int), U64 a → U64 (comeU P l ks a)
  | [], _, _, h => h
  | _ :: _, [], _, h => h
  | _ :: l, _ :: ks, _, _ => comeU_U64 P hU l ks _ (hU _)
theorem comeU_take (P : Int) : ∀ (l ks : List Int) (a : Int), comeU P l (ks.take l.length) a = comeU P l ks a
  | [], _, _ => by simp [comeU]
  | _ :: _, [], _ => by simp [comeU]
  | x :: l, k :: ks, a => by simp only [List.length_cons, List.take_succ_cons, comeU]; exact comeU_take P l ks _
set_option maxRecDepth 100000 in
set_option maxHeartbeats 400000 in
theorem comeU_any (p : Par) (gp : Nat) (vl vk : Value) (l ks : List Int) (a : Int) (X Y : Nat → Prop) (w : World) (hb : Bk w gp 24 p.cells) (hl : Sl encU X w vl l) (hk : Sl encU Y w vk ks) (hlen : l.length ≤ ks.length) (ha : U64 a) :
    Calls Tryz.prog 64 #[vl, vk, .int .u64 a, .func (.func 60) #[] #[.pointer (some ⟨gp, 0, none⟩)], .func (.func 62) #[] #[.pointer (some ⟨gp, 0, none⟩)]] w fun e w' => e = .returned (.int .u64 (comeU p.P l ks a)) ∧ w.grownBy w' none := by
  have HB := Lib.hid hb
  have HL := Lib.hid hl
  have HK := Lib.hid hk
  have HLN := Lib.hid hlen
  have HU0 := Lib.hid ha
  obtain ⟨A, c, rfl, hc1, hc2⟩ := hl.form
  obtain ⟨A2, c2, rfl, hc3, hc4⟩ := hk.form
  clear hb hl hk hlen ha
  go_enter Tryz.func64, Tryz.ntmps64
  go_wp2_with fail
  go_loopg [2, 15] l.length (fun g s2 s15 wx => ∃ (j : Nat) (b : Int), j + g = l.length ∧ s15 = .int .i64 j ∧ s2 = .int .u64 b ∧ Hid (w.grownBy wx none ∧ U64 b ∧ b = comeU p.P (l.take j) (ks.take j) a))
  case atStart => exact ⟨0, a, by omega, rfl, rfl, Lib.hid ⟨World.grownBy.refl _ none, HU0.out, by simp [comeU]⟩⟩
  case round =>
    obtain ⟨j, b, hj, rfl, rfl, HX⟩ := hrel
    cases gk with
    | zero =>
      obtain rfl : j = l.length := by omega
      have HE : Hid (b = comeU p.P l ks a) := Lib.hid (by rw [HX.out.2.2, List.take_length, comeU_take])
      have HG := Lib.hid HX.out.1
      clear HX
      go_wp2
      go_ret
      exact ⟨ret_u64 HE.out, HG.out⟩
    | succ m =>
      have hjn : (j : Int) < (l.length : Int) := by omega
      have hjN : j < l.length := by omega
      have hjK : j < ks.length := Nat.lt_of_lt_of_le hjN HLN.out
      have hjk : (j : Int) < (ks.length : Int) := by omega
      obtain ⟨g, o, c', e, _, _, hcu, hux⟩ := (HL.out.kept HX.out.1).atU hjN
      injection e with e1 e2 e3
      subst e1 e3
      obtain ⟨g2, o2, c2', e, _, _, hcu2, huk⟩ := (HK.out.kept HX.out.1).atU hjK
      injection e with e1 e2 e3
      subst e1 e3
      have HSN : Hid (timesI p.P [b, powI l[j] ks[j] p.P] = comeU p.P (l.take (j + 1)) (ks.take (j + 1)) a) := Lib.hid (by rw [comeU_snoc _ _ _ _ _ hjN hjK, ← HX.out.2.2])
      have H2 := Lib.hid (coms2_any p gp l[j] ks[j] wr (HB.out.grown HX.out.1 (by simp)) hux huk)
      have HPU := Lib.hid (powI_U64' l[j] ks[j] p.P)
      have HG := Lib.hid HX.out.1
      have HBU := Lib.hid HX.out.2.1
      clear HX hux huk
      generalize l[j] = x at *
      generalize ks[j] = k at *
      generalize l.length = n at *
      generalize ks.length = n2 at *
      go_wp2_with fail
      refine H2.out.mono ?_
      rintro e4 w1 ⟨rfl, hg1⟩
      have HG1 := Lib.hid (HG.out.trans hg1)
      have H3 := Lib.hid (coms3_any p gp b _ w1 (HB.out.grown HG1.out (by simp)) HBU.out HPU.out)
      clear hg1
      go_wp2_with fail
      refine H3.out.mono ?_
      rintro e5 w2 ⟨rfl, hg2⟩
      have HFIN : Hid (w.grownBy w2 none ∧ U64 (timesI p.P [b, powI x k p.P]) ∧ timesI p.P [b, powI x k p.P] = comeU p.P (l.take (j + 1)) (ks.take (j + 1)) a) := Lib.hid ⟨HG1.out.trans hg2, timesI_U64 p.P _, HSN.out⟩
      clear hg2
      go_wp2_with fail
      go_roundg m
      case measure => omega
      case rel => exact ⟨j + 1, _, by omega, by go_num, rfl, HFIN⟩
end Go.Proofs.YtiimippmihkgcaaGreatDoor

namespace Go.Proofs.YtiimippmihkgcaaGreatDoor
open Go Go.RowKit

/-- No index. -/
def memBad (i : Int) : Bool := decide (i < 1) || decide (7 < i)
theorem memOne_any (i : Int) (w : World) :
    Calls Tryz.prog 105 #[.int .i64 i] w fun e w' => e = .returned (.bool (memBad i)) ∧ w.grownBy w' none := by
  by_cases h1 : i < 1
  · have hr : memBad i = true := by simp [memBad, h1]
    rw [hr]
    clear hr
    go_enter Tryz.func105, Tryz.ntmps105
    go_wp2
    go_ret
    exact ⟨by simp, World.grownBy.refl _ none⟩
  · by_cases h2 : 7 < i
    · have hr : memBad i = true := by simp [memBad, h2]
      rw [hr]
      clear hr
      go_enter Tryz.func105, Tryz.ntmps105
      go_wp2
      go_ret
      exact ⟨by simp [*], World.grownBy.refl _ none⟩
    · have hr : memBad i = false := by simp [memBad, h1, h2]
      rw [hr]
      clear hr
      go_enter Tryz.func105, Tryz.ntmps105
      go_wp2
      go_ret
      exact ⟨by simp [*], World.grownBy.refl _ none⟩
set_option maxHeartbeats 400000 in
theorem indexMem  (v : Value) (l : List (Int)) (X : Nat → Prop) (w : World)  (h : Sl encI X w v l) :
    Calls Tryz.prog 127 #[v, .func (.func 105) #[] #[]] w (FoundB (l.any fun x => memBad x) w) := by
  have H := Lib.hid h
  have hl := h.bound
  obtain ⟨A, c, rfl, _, _⟩ := h.form
  clear h 
  go_enter Tryz.func127, Tryz.ntmps127
  go_wp2_with fail
  go_loopg [8] l.length (fun n s8 wx => ∃ j : Nat, j + n = l.length ∧ s8 = .int .i64 j ∧ Hid (w.grownBy wx none ∧ ∀ i (h : i < l.length), i < j → memBad l[i] = false))
  case atStart => exact ⟨0, by omega, rfl, Lib.hid ⟨World.grownBy.refl w none, fun i hi h => absurd h (by omega)⟩⟩
  case round =>
    obtain ⟨j, hj, rfl, HX⟩ := hrel
    cases gk with
    | zero =>
      obtain rfl : j = l.length := by omega
      have HE : Hid (FoundB (l.any fun x => memBad x) w (.returned (.int .i64 (-1))) wr) := Lib.hid ⟨-1, rfl, by
        have : (l.any fun x => memBad x) = false := by
          rw [List.any_eq_false]
          intro b hb
          obtain ⟨i, hi, rfl⟩ := List.getElem_of_mem hb
          simp [HX.out.2 i hi hi]
        rw [this]
        rfl, ⟨by decide, by decide⟩, HX.out.1⟩
      clear HX
      go_wp2
      go_ret
      exact HE.out
    | succ k =>
      have hjn : (j : Int) < (l.length : Int) := by omega
      have hjN : j < l.length := by omega
      obtain ⟨g, o, c', e, _, _, hcu, hu⟩ := (H.out.kept HX.out.1).atI hjN
      injection e with e1 e2 e3
      subst e1 e3
      have HC := Lib.hid (memOne_any l[j] wr)
      have HV : Hid (memBad l[j] = false ∨ memBad l[j] = true) := Lib.hid (by cases memBad l[j] <;> simp)
      have HR : Hid (memBad l[j] = false → ∀ i (h : i < l.length), i < j + 1 → memBad l[i] = false) := Lib.hid (fun h i hi hl => by
        rcases Nat.lt_or_ge i j with h1 | h1
        · exact HX.out.2 i hi h1
        · obtain rfl : i = j := by omega
          exact h)
      have HN : Hid (memBad l[j] = true → (l.any fun x => memBad x) = true) := Lib.hid (fun h => List.any_eq_true.2 ⟨_, List.getElem_mem hjN, by simp [h]⟩)
      have HG := Lib.hid HX.out.1
      clear HX hu e2
      generalize memBad l[j] = b at *
      generalize l[j] = x at *
      rcases HV.out with rfl | rfl
      · go_wp2_with fail
        refine HC.out.mono ?_
        rintro e w1 ⟨rfl, hg⟩
        have HG1 := Lib.hid (HG.out.trans hg)
        clear hg
        go_wp2
        go_roundg k
        case measure => omega
        case rel => exact ⟨j + 1, by omega, by go_num, Lib.hid ⟨HG1.out, HR.out (by simp)⟩⟩
      · have HE : Hid (∀ w1, w.grownBy w1 none → FoundB (l.any fun x => memBad x) w (.returned (.int .i64 j)) w1) := Lib.hid (fun w1 hg => ⟨j, rfl, by rw [HN.out rfl]; simp, ⟨by omega, by omega⟩, hg⟩)
        go_wp2_with fail
        refine HC.out.mono ?_
        rintro e w1 ⟨rfl, hg⟩
        have HG1 := Lib.hid (HG.out.trans hg)
        clear hg
        go_wp2
        go_ret
        exact HE.out _ HG1.out
set_option maxHeartbeats 400000 in
theorem containsMem  (v : Value) (l : List (Int)) (X : Nat → Prop) (w : World)  (h : Sl encI X w v l) :
    Calls Tryz.prog 104 #[v, .func (.func 105) #[] #[]] w fun e w' => e = .returned (.bool (l.any fun x => memBad x)) ∧ w.grownBy w' none := by
  have HC := Lib.hid (indexMem  v l X w  h)
  obtain ⟨A, c, rfl, _, _⟩ := h.form
  clear h 
  go_enter Tryz.func104, Tryz.ntmps104
  go_wp2_with fail
  refine HC.out.mono ?_
  rintro e w1 ⟨r, rfl, hr, _, hg⟩
  have HG := Lib.hid hg
  have HR := Lib.hid hr
  clear hg hr
  go_wp2
  go_ret
  exact ⟨ret_bool HR.out, HG.out⟩
/-- All are indices, and there are some. -/
def membersB (at_ : List Int) : Bool := decide (0 < at_.length) && !at_.any fun i => memBad i
theorem membersB_yes {at_ : List Int} (h : membersB at_ = true) : 0 < at_.length ∧ ∀ i ∈ at_, 1 ≤ i ∧ i ≤ 7 := by
  simp [membersB, memBad] at h
  exact ⟨h.1, fun i hi => h.2 i hi⟩
set_option maxHeartbeats 400000 in
theorem members_any (v : Value) (at_ : List Int) (X : Nat → Prop) (w : World) (h : Sl encI X w v at_) :
    Calls Tryz.prog 58 #[v] w fun e w' => e = .returned (.bool (membersB at_)) ∧ w.grownBy w' none := by
  have HC := Lib.hid (containsMem v at_ X w h)
  obtain ⟨A, c, rfl, _, _⟩ := h.form
  clear h
  by_cases h0 : 0 < at_.length
  · have hr : membersB at_ = !at_.any fun i => memBad i := by simp [membersB, h0]
    rw [hr]
    clear hr
    have hI : (0 : Int) < (at_.length : Int) := by omega
    generalize (at_.any fun i => memBad i) = b at *
    generalize at_.length = n at *
    go_enter Tryz.func58, Tryz.ntmps58
    go_wp2_with fail
    refine HC.out.mono ?_
    rintro e w1 ⟨rfl, hg⟩
    have HG := Lib.hid hg
    clear hg
    go_wp2
    go_ret
    exact ⟨by simp, HG.out⟩
  · have hr : membersB at_ = false := by simp [membersB, h0]
    rw [hr]
    clear hr
    have hI : ¬ (0 : Int) < (at_.length : Int) := by omega
    generalize at_.length = n at *
    go_enter Tryz.func58, Tryz.ntmps58
    go_wp2
    go_ret
    exact ⟨by simp [*], World.grownBy.refl _ none⟩
/-- A list of a column that is too short or too long. -/
def shortB (p : Par) (x : List Int) : Bool := !((x.length : Int) == wrap64 (p.T + 1))
theorem short_any (p : Par) (B : Nat) (v : Value) (x : List Int) (X : Nat → Prop) (w : World) (hb : Bk w B 24 p.cells) (h : Sl encU X w v x) :
    Calls Tryz.prog 55 #[v, .pointer (some ⟨B, 0, none⟩)] w fun e w' => e = .returned (.bool (shortB p x)) ∧ w.grownBy w' none := by
  obtain ⟨A, c, rfl, _, _⟩ := h.form
  have hc := hb.prule
  obtain ⟨r, hr⟩ : ∃ r, r = shortB p x := ⟨_, rfl⟩
  have HR := Lib.hid hr
  rw [← hr]
  clear h hb hr
  go_enter Tryz.func55, Tryz.ntmps55
  go_wp2
  go_ret
  exact ⟨ret_bool (by rw [HR.out]; rfl), World.grownBy.refl _ none⟩
set_option maxHeartbeats 400000 in
theorem indexShort (p : Par) (B : Nat) (v : Value) (l : List (List Int)) (X : Nat → Prop) (w : World) (hb : Bk w B 24 p.cells) (h : Sl (encS encU) X w v l) :
    Calls Tryz.prog 103 #[v, .func (.func 55) #[] #[.pointer (some ⟨B, 0, none⟩)]] w (FoundB (l.any fun x => shortB p x) w) := by
  have Hhb := Lib.hid hb
  have H := Lib.hid h
  have hl := h.bound
  obtain ⟨A, c, rfl, _, _⟩ := h.form
  clear h hb
  go_enter Tryz.func103, Tryz.ntmps103
  go_wp2_with fail
  go_loopg [8] l.length (fun n s8 wx => ∃ j : Nat, j + n = l.length ∧ s8 = .int .i64 j ∧ Hid (w.grownBy wx none ∧ ∀ i (h : i < l.length), i < j → shortB p l[i] = false))
  case atStart => exact ⟨0, by omega, rfl, Lib.hid ⟨World.grownBy.refl w none, fun i hi h => absurd h (by omega)⟩⟩
  case round =>
    obtain ⟨j, hj, rfl, HX⟩ := hrel
    cases gk with
    | zero =>
      obtain rfl : j = l.length := by omega
      have HE : Hid (FoundB (l.any fun x => shortB p x) w (.returned (.int .i64 (-1))) wr) := Lib.hid ⟨-1, rfl, by
        have : (l.any fun x => shortB p x) = false := by
          rw [List.any_eq_false]
          intro b hb
          obtain ⟨i, hi, rfl⟩ := List.getElem_of_mem hb
          simp [HX.out.2 i hi hi]
        rw [this]
        rfl, ⟨by decide, by decide⟩, HX.out.1⟩
      clear HX
      go_wp2
      go_ret
      exact HE.out
    | succ k =>
      have hjn : (j : Int) < (l.length : Int) := by omega
      have hjN : j < l.length := by omega
      obtain ⟨g, o, c', u, e, _, _, hcu, hu⟩ := (H.out.kept HX.out.1).atS hjN
      injection e with e1 e2 e3
      subst e1 e3
      have HC := Lib.hid (short_any p B u l[j] X wr (Hhb.out.grown HX.out.1 (by simp)) hu)
      have HV : Hid (shortB p l[j] = false ∨ shortB p l[j] = true) := Lib.hid (by cases shortB p l[j] <;> simp)
      have HR : Hid (shortB p l[j] = false → ∀ i (h : i < l.length), i < j + 1 → shortB p l[i] = false) := Lib.hid (fun h i hi hl => by
        rcases Nat.lt_or_ge i j with h1 | h1
        · exact HX.out.2 i hi h1
        · obtain rfl : i = j := by omega
          exact h)
      have HN : Hid (shortB p l[j] = true → (l.any fun x => shortB p x) = true) := Lib.hid (fun h => List.any_eq_true.2 ⟨_, List.getElem_mem hjN, by simp [h]⟩)
      obtain ⟨A7, c7, e7, _, _⟩ := hu.form
      generalize l[j].length = n7 at e7
      subst e7
      have HG := Lib.hid HX.out.1
      clear HX hu e2
      generalize shortB p l[j] = b at *
      generalize l[j] = x at *
      rcases HV.out with rfl | rfl
      · go_wp2_with fail
        refine HC.out.mono ?_
        rintro e w1 ⟨rfl, hg⟩
        have HG1 := Lib.hid (HG.out.trans hg)
        clear hg
        go_wp2
        go_roundg k
        case measure => omega
        case rel => exact ⟨j + 1, by omega, by go_num, Lib.hid ⟨HG1.out, HR.out (by simp)⟩⟩
      · have HE : Hid (∀ w1, w.grownBy w1 none → FoundB (l.any fun x => shortB p x) w (.returned (.int .i64 j)) w1) := Lib.hid (fun w1 hg => ⟨j, rfl, by rw [HN.out rfl]; simp, ⟨by omega, by omega⟩, hg⟩)
        go_wp2_with fail
        refine HC.out.mono ?_
        rintro e w1 ⟨rfl, hg⟩
        have HG1 := Lib.hid (HG.out.trans hg)
        clear hg
        go_wp2
        go_ret
        exact HE.out _ HG1.out
set_option maxHeartbeats 400000 in
theorem containsShort (p : Par) (B : Nat) (v : Value) (l : List (List Int)) (X : Nat → Prop) (w : World) (hb : Bk w B 24 p.cells) (h : Sl (encS encU) X w v l) :
    Calls Tryz.prog 57 #[v, .func (.func 55) #[] #[.pointer (some ⟨B, 0, none⟩)]] w fun e w' => e = .returned (.bool (l.any fun x => shortB p x)) ∧ w.grownBy w' none := by
  have HC := Lib.hid (indexShort p B v l X w hb h)
  obtain ⟨A, c, rfl, _, _⟩ := h.form
  clear h hb
  go_enter Tryz.func57, Tryz.ntmps57
  go_wp2_with fail
  refine HC.out.mono ?_
  rintro e w1 ⟨r, rfl, hr, _, hg⟩
  have HG := Lib.hid hg
  have HR := Lib.hid hr
  clear hg hr
  go_wp2
  go_ret
  exact ⟨ret_bool HR.out, HG.out⟩
/-- A member's list that is too short or too long. -/
def oddB (p : Par) (x : List (Int × Int)) : Bool := !((x.length : Int) == secretsI p)
theorem odd_any (p : Par) (B : Nat) (v : Value) (x : List (Int × Int)) (X : Nat → Prop) (w : World) (hb : Bk w B 24 p.cells) (h : Sl encP X w v x) :
    Calls Tryz.prog 74 #[v, .pointer (some ⟨B, 0, none⟩)] w fun e w' => e = .returned (.bool (oddB p x)) ∧ w.grownBy w' none := by
  obtain ⟨A, c, rfl, _, _⟩ := h.form
  have hc := hb.prule
  have HS := Lib.hid (ssecrets_any p w)
  obtain ⟨r, hr⟩ : ∃ r, r = oddB p x := ⟨_, rfl⟩
  have HR := Lib.hid hr
  rw [← hr]
  clear h hb hr
  go_enter Tryz.func74, Tryz.ntmps74
  go_wp2_with fail
  refine HS.out.mono ?_
  rintro e w1 ⟨rfl, hg⟩
  have HG := Lib.hid hg
  clear hg hc
  go_wp2
  go_ret
  exact ⟨ret_bool (by rw [HR.out]; rfl), HG.out⟩
set_option maxHeartbeats 400000 in
theorem indexOdd (p : Par) (B : Nat) (v : Value) (l : List (List (Int × Int))) (X : Nat → Prop) (w : World) (hb : Bk w B 24 p.cells) (h : Sl (encS encP) X w v l) :
    Calls Tryz.prog 110 #[v, .func (.func 74) #[] #[.pointer (some ⟨B, 0, none⟩)]] w (FoundB (l.any fun x => oddB p x) w) := by
  have Hhb := Lib.hid hb
  have H := Lib.hid h
  have hl := h.bound
  obtain ⟨A, c, rfl, _, _⟩ := h.form
  clear h hb
  go_enter Tryz.func110, Tryz.ntmps110
  go_wp2_with fail
  go_loopg [8] l.length (fun n s8 wx => ∃ j : Nat, j + n = l.length ∧ s8 = .int .i64 j ∧ Hid (w.grownBy wx none ∧ ∀ i (h : i < l.length), i < j → oddB p l[i] = false))
  case atStart => exact ⟨0, by omega, rfl, Lib.hid ⟨World.grownBy.refl w none, fun i hi h => absurd h (by omega)⟩⟩
  case round =>
    obtain ⟨j, hj, rfl, HX⟩ := hrel
    cases gk with
    | zero =>
      obtain rfl : j = l.length := by omega
      have HE : Hid (FoundB (l.any fun x => oddB p x) w (.returned (.int .i64 (-1))) wr) := Lib.hid ⟨-1, rfl, by
        have : (l.any fun x => oddB p x) = false := by
          rw [List.any_eq_false]
          intro b hb
          obtain ⟨i, hi, rfl⟩ := List.getElem_of_mem hb
          simp [HX.out.2 i hi hi]
        rw [this]
        rfl, ⟨by decide, by decide⟩, HX.out.1⟩
      clear HX
      go_wp2
      go_ret
      exact HE.out
    | succ k =>
      have hjn : (j : Int) < (l.length : Int) := by omega
      have hjN : j < l.length := by omega
      obtain ⟨g, o, c', u, e, _, _, hcu, hu⟩ := (H.out.kept HX.out.1).atS hjN
      injection e with e1 e2 e3
      subst e1 e3
      have HC := Lib.hid (odd_any p B u l[j] X wr (Hhb.out.grown HX.out.1 (by simp)) hu)
      have HV : Hid (oddB p l[j] = false ∨ oddB p l[j] = true) := Lib.hid (by cases oddB p l[j] <;> simp)
      have HR : Hid (oddB p l[j] = false → ∀ i (h : i < l.length), i < j + 1 → oddB p l[i] = false) := Lib.hid (fun h i hi hl => by
        rcases Nat.lt_or_ge i j with h1 | h1
        · exact HX.out.2 i hi h1
        · obtain rfl : i = j := by omega
          exact h)
      have HN : Hid (oddB p l[j] = true → (l.any fun x => oddB p x) = true) := Lib.hid (fun h => List.any_eq_true.2 ⟨_, List.getElem_mem hjN, by simp [h]⟩)
      obtain ⟨A7, c7, e7, _, _⟩ := hu.form
      generalize l[j].length = n7 at e7
      subst e7
      have HG := Lib.hid HX.out.1
      clear HX hu e2
      generalize oddB p l[j] = b at *
      generalize l[j] = x at *
      rcases HV.out with rfl | rfl
      · go_wp2_with fail
        refine HC.out.mono ?_
        rintro e w1 ⟨rfl, hg⟩
        have HG1 := Lib.hid (HG.out.trans hg)
        clear hg
        go_wp2
        go_roundg k
        case measure => omega
        case rel => exact ⟨j + 1, by omega, by go_num, Lib.hid ⟨HG1.out, HR.out (by simp)⟩⟩
      · have HE : Hid (∀ w1, w.grownBy w1 none → FoundB (l.any fun x => oddB p x) w (.returned (.int .i64 j)) w1) := Lib.hid (fun w1 hg => ⟨j, rfl, by rw [HN.out rfl]; simp, ⟨by omega, by omega⟩, hg⟩)
        go_wp2_with fail
        refine HC.out.mono ?_
        rintro e w1 ⟨rfl, hg⟩
        have HG1 := Lib.hid (HG.out.trans hg)
        clear hg
        go_wp2
        go_ret
        exact HE.out _ HG1.out
set_option maxHeartbeats 400000 in
theorem containsOdd (p : Par) (B : Nat) (v : Value) (l : List (List (Int × Int))) (X : Nat → Prop) (w : World) (hb : Bk w B 24 p.cells) (h : Sl (encS encP) X w v l) :
    Calls Tryz.prog 75 #[v, .func (.func 74) #[] #[.pointer (some ⟨B, 0, none⟩)]] w fun e w' => e = .returned (.bool (l.any fun x => oddB p x)) ∧ w.grownBy w' none := by
  have HC := Lib.hid (indexOdd p B v l X w hb h)
  obtain ⟨A, c, rfl, _, _⟩ := h.form
  clear h hb
  go_enter Tryz.func75, Tryz.ntmps75
  go_wp2_with fail
  refine HC.out.mono ?_
  rintro e w1 ⟨r, rfl, hr, _, hg⟩
  have HG := Lib.hid hg
  have HR := Lib.hid hr
  clear hg hr
  go_wp2
  go_ret
  exact ⟨ret_bool HR.out, HG.out⟩
end Go.Proofs.YtiimippmihkgcaaGreatDoor

namespace Go.Proofs.YtiimippmihkgcaaGreatDoor
open Go.RowKit

theorem zero_pair (w : World) (n : Nat) : ((w.drewN n).alloc (Obj.cells #[.int .u64 0, .int .u64 0] 70)).cell? ⟨w.heap.size, 0, none⟩ = some (.int .u64 0) ∧ ((w.drewN n).alloc (Obj.cells #[.int .u64 0, .int .u64 0] 70)).cell? ⟨w.heap.size, 1, none⟩ = some (.int .u64 0) ∧
    ((w.drewN n).alloc (Obj.cells #[.int .u64 0, .int .u64 0] 70)).frozen? ⟨w.heap.size, 0, none⟩ = false ∧ ((w.drewN n).alloc (Obj.cells #[.int .u64 0, .int .u64 0] 70)).frozen? ⟨w.heap.size, 1, none⟩ = false :=
  have h : Bk ((w.drewN n).alloc (Obj.cells #[.int .u64 0, .int .u64 0] 70)) w.heap.size 70 #[.int .u64 0, .int .u64 0] := Bk.new (w.drewN n) _ _
  ⟨h.cell 0, h.cell 1, h.free 0, h.free 1⟩
theorem pair_made (w : World) (n : Nat) (a b : Int) : w.grownBy ((((w.drewN n).alloc (Obj.cells #[.int .u64 0, .int .u64 0] 70)).setCell ⟨w.heap.size, 0, none⟩ (.int .u64 a)).setCell ⟨w.heap.size, 1, none⟩ (.int .u64 b)) none ∧
    Bk ((((w.drewN n).alloc (Obj.cells #[.int .u64 0, .int .u64 0] 70)).setCell ⟨w.heap.size, 0, none⟩ (.int .u64 a)).setCell ⟨w.heap.size, 1, none⟩ (.int .u64 b)) w.heap.size 70 #[.int .u64 a, .int .u64 b] := by
  have h0 : Bk ((w.drewN n).alloc (Obj.cells #[.int .u64 0, .int .u64 0] 70)) w.heap.size 70 #[.int .u64 0, .int .u64 0] := Bk.new (w.drewN n) _ _
  have g0 : w.grownBy ((w.drewN n).alloc (Obj.cells #[.int .u64 0, .int .u64 0] 70)) none := (grownBy_drewN (World.grownBy.refl w none) n).trans (World.grownBy_alloc _ _ none)
  refine ⟨?_, (h0.set 0 _).set 1 _⟩
  have g1 := grown_up g0 (grownBy_set (World.grownBy.refl _ (some w.heap.size)) 0 (.int .u64 a)) (by intro g e; injection e with e; omega)
  exact grown_up g1 (grownBy_set (World.grownBy.refl _ (some w.heap.size)) 1 (.int .u64 b)) (by intro g e; injection e with e; omega)
theorem pair_made2 (w : World) (n m : Nat) (a b : Int) : w.grownBy (((((w.drewN n).alloc (Obj.cells #[.int .u64 0, .int .u64 0] 70)).drewN m).setCell ⟨w.heap.size, 0, none⟩ (.int .u64 a)).setCell ⟨w.heap.size, 1, none⟩ (.int .u64 b)) none ∧
    Bk (((((w.drewN n).alloc (Obj.cells #[.int .u64 0, .int .u64 0] 70)).drewN m).setCell ⟨w.heap.size, 0, none⟩ (.int .u64 a)).setCell ⟨w.heap.size, 1, none⟩ (.int .u64 b)) w.heap.size 70 #[.int .u64 a, .int .u64 b] := by
  have h0 : Bk (((w.drewN n).alloc (Obj.cells #[.int .u64 0, .int .u64 0] 70)).drewN m) w.heap.size 70 #[.int .u64 0, .int .u64 0] := (Bk.new (w.drewN n) _ _).drewN m
  have g0 : w.grownBy (((w.drewN n).alloc (Obj.cells #[.int .u64 0, .int .u64 0] 70)).drewN m) none := grownBy_drewN ((grownBy_drewN (World.grownBy.refl w none) n).trans (World.grownBy_alloc _ _ none)) m
  refine ⟨?_, (h0.set 0 _).set 1 _⟩
  have g1 := grown_up g0 (grownBy_set (World.grownBy.refl _ (some w.heap.size)) 0 (.int .u64 a)) (by intro g e; injection e with e; omega)
  exact grown_up g1 (grownBy_set (World.grownBy.refl _ (some w.heap.size)) 1 (.int .u64 b)) (by intro g e; injection e with e; omega)
theorem bkDrawn {w : World} {g : Nat} {t : TypeId} {cs : Array Value} (h : Hid (Bk w g t cs)) (n : Nat) : Hid (Bk (w.drewN n) g t cs) := Lib.hid (h.out.drewN n)
end Go.Proofs.YtiimippmihkgcaaGreatDoor

namespace Go.Proofs.YtiimippmihkgcaaGreatDoor
open Go Go.RowKit

set_option maxRecDepth 100000 in
set_option maxHeartbeats 400000 in
theorem sum2_any (p : Par) (gp : Nat) (x : Int × Int) (k : Int) (w : World) (hb : Bk w gp 24 p.cells) (hu1 : U64 x.1) (hu2 : U64 x.2) (hu3 : U64 k) (hu4 : True) :
    Calls Tryz.prog 76 #[.agg #[.int .u64 x.1, .int .u64 x.2], .int .u64 k, .pointer (some ⟨gp, 0, none⟩)] w fun e w' => e = .returned (.agg #[.int .u64 (mulI x.1 k p.Q), .int .u64 (mulI x.2 k p.Q)]) ∧ w.grownBy w' none := by
  have HP : Hid (Bk ((w.alloc (.cells #[.int .u64 x.1, .int .u64 x.2] 70)).alloc (.cells #[.int .u64 0, .int .u64 0] 70)) gp 24 p.cells) := Lib.hid ((hb.alloc _).alloc _)
  have HX0 : Hid (Bk ((w.alloc (.cells #[.int .u64 x.1, .int .u64 x.2] 70)).alloc (.cells #[.int .u64 0, .int .u64 0] 70)) (w.heap.size) 70 #[.int .u64 x.1, .int .u64 x.2]) := Lib.hid (by have := (Bk.new w 70 #[.int .u64 x.1, .int .u64 x.2]).alloc (.cells #[.int .u64 0, .int .u64 0] 70); simpa using this)
  have HR : Hid (Bk ((w.alloc (.cells #[.int .u64 x.1, .int .u64 x.2] 70)).alloc (.cells #[.int .u64 0, .int .u64 0] 70)) (w.heap.size + 1) 70 #[.int .u64 0, .int .u64 0]) := Lib.hid (by have := Bk.new (w.alloc (.cells #[.int .u64 x.1, .int .u64 x.2] 70)) 70 #[.int .u64 0, .int .u64 0]; simpa using this)
  have HG : Hid (w.grownBy ((w.alloc (.cells #[.int .u64 x.1, .int .u64 x.2] 70)).alloc (.cells #[.int .u64 0, .int .u64 0] 70)) none ∧ w.heap.size + 1 < ((w.alloc (.cells #[.int .u64 x.1, .int .u64 x.2] 70)).alloc (.cells #[.int .u64 0, .int .u64 0] 70)).heap.size) := Lib.hid ⟨(World.grownBy_alloc w _ none).trans (World.grownBy_alloc _ _ none), by simp⟩
  have HU := Lib.hid (And.intro hu1 (And.intro hu2 (And.intro hu3 hu4)))
  clear hb hu1 hu2 hu3 hu4
  go_enter Tryz.func76, Tryz.ntmps76
  go_wp2_with fail
  obtain ⟨W, hW⟩ : ∃ W, W = ((w.alloc (.cells #[.int .u64 x.1, .int .u64 x.2] 70)).alloc (.cells #[.int .u64 0, .int .u64 0] 70)) := ⟨_, rfl⟩
  rw [← hW] at HP HR HG HX0 ⊢
  clear hW
  refine wp_region_mono 13 (by kernel_rfl) (by kernel_rfl) ?_
  refine MonoR.step (Pv.eq (.pointer (some ⟨w.heap.size, 0, none⟩))) [] (by kernel_rfl) (fun w' hw' => ?_) ?_
  · refine ask_do rfl fun K hK => ?_
    go_simp
    exact hK _ _ rfl rfl (World.grownBy.refl _ none)
  refine MonoR.step (Pv.eq (.int .u64 x.1)) [(0, 6)] (by kernel_rfl) (fun w' hw' => ?_) ?_
  · rintro _ rfl
    refine ask_do rfl fun K hK => ?_
    have hq := (HP.out.grown ((grown_drewN' W 1).trans hw') (by simp)).prule
    have hx0 := (HX0.out.grown ((grown_drewN' W 1).trans hw') (by simp)).cell
    have hx0a := hx0 0; have hx0b := hx0 1; simp at hx0a hx0b
    go_simp
    exact hK _ _ rfl rfl (World.grownBy.refl _ none)
  refine MonoR.step (Pv.eq (.int .u64 k)) [] (by kernel_rfl) (fun w' hw' => ?_) ?_
  · refine ask_do rfl fun K hK => ?_
    go_simp
    exact hK _ _ rfl rfl (World.grownBy.refl _ none)
  refine MonoR.step (Pv.eq (.pointer (some ⟨gp, 1, none⟩))) [] (by kernel_rfl) (fun w' hw' => ?_) ?_
  · refine ask_do rfl fun K hK => ?_
    go_simp
    exact hK _ _ rfl rfl (World.grownBy.refl _ none)
  refine MonoR.step (Pv.eq (.int .u64 p.Q)) [(3, 9)] (by kernel_rfl) (fun w' hw' => ?_) ?_
  · rintro _ rfl
    refine ask_do rfl fun K hK => ?_
    have hq := (HP.out.grown ((grown_drewN' W 1).trans hw') (by simp)).prule
    have hx0 := (HX0.out.grown ((grown_drewN' W 1).trans hw') (by simp)).cell
    have hx0a := hx0 0; have hx0b := hx0 1; simp at hx0a hx0b
    go_simp
    exact hK _ _ rfl rfl (World.grownBy.refl _ none)
  refine MonoR.step (Pv.eq (.int .u64 (mulI x.1 k p.Q))) [(1, 7), (2, 8), (4, 10)] (by kernel_rfl) (fun w' hw' => ?_) ?_
  · rintro _ rfl
    rintro _ rfl
    rintro _ rfl
    refine ask_do rfl fun K hK => ?_
    go_simp
    refine (mul_gr x.1 k p.Q w' HU.out.1 HU.out.2.2.1).mono ?_
    rintro e w3 ⟨rfl, hg⟩
    exact hK _ _ rfl rfl hg
  refine MonoR.step (Pv.eq (.pointer (some ⟨w.heap.size, 1, none⟩))) [] (by kernel_rfl) (fun w' hw' => ?_) ?_
  · refine ask_do rfl fun K hK => ?_
    go_simp
    exact hK _ _ rfl rfl (World.grownBy.refl _ none)
  refine MonoR.step (Pv.eq (.int .u64 x.2)) [(6, 12)] (by kernel_rfl) (fun w' hw' => ?_) ?_
  · rintro _ rfl
    refine ask_do rfl fun K hK => ?_
    have hq := (HP.out.grown ((grown_drewN' W 1).trans hw') (by simp)).prule
    have hx0 := (HX0.out.grown ((grown_drewN' W 1).trans hw') (by simp)).cell
    have hx0a := hx0 0; have hx0b := hx0 1; simp at hx0a hx0b
    go_simp
    exact hK _ _ rfl rfl (World.grownBy.refl _ none)
  refine MonoR.step (Pv.eq (.int .u64 k)) [] (by kernel_rfl) (fun w' hw' => ?_) ?_
  · refine ask_do rfl fun K hK => ?_
    go_simp
    exact hK _ _ rfl rfl (World.grownBy.refl _ none)
  refine MonoR.step (Pv.eq (.pointer (some ⟨gp, 1, none⟩))) [] (by kernel_rfl) (fun w' hw' => ?_) ?_
  · refine ask_do rfl fun K hK => ?_
    go_simp
    exact hK _ _ rfl rfl (World.grownBy.refl _ none)
  refine MonoR.step (Pv.eq (.int .u64 p.Q)) [(9, 15)] (by kernel_rfl) (fun w' hw' => ?_) ?_
  · rintro _ rfl
    refine ask_do rfl fun K hK => ?_
    have hq := (HP.out.grown ((grown_drewN' W 1).trans hw') (by simp)).prule
    have hx0 := (HX0.out.grown ((grown_drewN' W 1).trans hw') (by simp)).cell
    have hx0a := hx0 0; have hx0b := hx0 1; simp at hx0a hx0b
    go_simp
    exact hK _ _ rfl rfl (World.grownBy.refl _ none)
  refine MonoR.step (Pv.eq (.int .u64 (mulI x.2 k p.Q))) [(7, 13), (8, 14), (10, 16)] (by kernel_rfl) (fun w' hw' => ?_) ?_
  · rintro _ rfl
    rintro _ rfl
    rintro _ rfl
    refine ask_do rfl fun K hK => ?_
    go_simp
    refine (mul_gr x.2 k p.Q w' HU.out.2.1 HU.out.2.2.1).mono ?_
    rintro e w3 ⟨rfl, hg⟩
    exact hK _ _ rfl rfl hg
  refine MonoR.step (Pv.eq (.agg #[.int .u64 (mulI x.1 k p.Q), .int .u64 (mulI x.2 k p.Q)])) [(5, 11), (11, 17)] (by kernel_rfl) (fun w' hw' => ?_) ?_
  · rintro _ rfl
    rintro _ rfl
    refine ask_do rfl fun K hK => ?_
    go_simp
    exact hK _ _ rfl rfl (World.grownBy.refl _ none)
  intro w3 hw3
  intro y0 e0 y1 e1 y2 e2 y3 e3 y4 e4 y5 e5 y6 e6 y7 e7 y8 e8 y9 e9 y10 e10 y11 e11 y12 e12
  have e0 : y0 = .pointer (some ⟨w.heap.size, 0, none⟩) := e0
  subst e0
  have e1 : y1 = .int .u64 x.1 := e1
  subst e1
  have e2 : y2 = .int .u64 k := e2
  subst e2
  have e3 : y3 = .pointer (some ⟨gp, 1, none⟩) := e3
  subst e3
  have e4 : y4 = .int .u64 p.Q := e4
  subst e4
  have e5 : y5 = .int .u64 (mulI x.1 k p.Q) := e5
  subst e5
  have e6 : y6 = .pointer (some ⟨w.heap.size, 1, none⟩) := e6
  subst e6
  have e7 : y7 = .int .u64 x.2 := e7
  subst e7
  have e8 : y8 = .int .u64 k := e8
  subst e8
  have e9 : y9 = .pointer (some ⟨gp, 1, none⟩) := e9
  subst e9
  have e10 : y10 = .int .u64 p.Q := e10
  subst e10
  have e11 : y11 = .int .u64 (mulI x.2 k p.Q) := e11
  subst e11
  have e12 : y12 = .agg #[.int .u64 (mulI x.1 k p.Q), .int .u64 (mulI x.2 k p.Q)] := e12
  subst e12
  simp only [Act.put, List.setIfInBounds_toArray, List.set_cons_zero, List.set_cons_succ]
  have hr3 := HR.out.grown ((grown_drewN' W 1).trans hw3) (by simp)
  have hc0 := hr3.cell 0
  have hc1 := hr3.cell 1
  have hf0 := hr3.free 0
  have hf1 := hr3.free 1
  simp at hc0 hc1
  have hk5 := (hr3.set 0 (.int .u64 (mulI x.1 k p.Q))).set 1 (.int .u64 (mulI x.2 k p.Q))
  have hk0 := hk5.cell 0
  have hk1 := hk5.cell 1
  simp at hk0 hk1
  have HF : Hid (w.grownBy ((w3.setCell ⟨w.heap.size + 1, 0, none⟩ (.int .u64 (mulI x.1 k p.Q))).setCell ⟨w.heap.size + 1, 1, none⟩ (.int .u64 (mulI x.2 k p.Q))) none) := Lib.hid (grown_of_below (((below_grown (HG.out.1.trans ((grown_drewN' W 1).trans hw3))).setCell (p := ⟨w.heap.size + 1, 0, none⟩) (by simp <;> omega) _).setCell (p := ⟨w.heap.size + 1, 1, none⟩) (by simp <;> omega) _))
  clear hw3 hr3 hk5
  refine wpList_plain rfl fun K hK => ?_
  go_simp
  refine hK _ _ (wpList_nil ?_)
  go_wp2_with fail
  refine bodyPost_ret (v := .agg #[.int .u64 (mulI x.1 k p.Q), .int .u64 (mulI x.2 k p.Q)]) (by simp [results, Tryz.results76, go_sem, *]) rfl ⟨rfl, HF.out⟩
set_option maxRecDepth 100000 in
set_option maxHeartbeats 400000 in
theorem sum3_any (p : Par) (gp : Nat) (x y : Int × Int) (w : World) (hb : Bk w gp 24 p.cells) (hu1 : U64 x.1) (hu2 : U64 x.2) (hu3 : U64 y.1) (hu4 : U64 y.2) :
    Calls Tryz.prog 78 #[.agg #[.int .u64 x.1, .int .u64 x.2], .agg #[.int .u64 y.1, .int .u64 y.2], .pointer (some ⟨gp, 0, none⟩)] w fun e w' => e = .returned (.agg #[.int .u64 (addI x.1 y.1 p.Q), .int .u64 (addI x.2 y.2 p.Q)]) ∧ w.grownBy w' none := by
  have HP : Hid (Bk (((w.alloc (.cells #[.int .u64 x.1, .int .u64 x.2] 70)).alloc (.cells #[.int .u64 y.1, .int .u64 y.2] 70)).alloc (.cells #[.int .u64 0, .int .u64 0] 70)) gp 24 p.cells) := Lib.hid (((hb.alloc _).alloc _).alloc _)
  have HX0 : Hid (Bk (((w.alloc (.cells #[.int .u64 x.1, .int .u64 x.2] 70)).alloc (.cells #[.int .u64 y.1, .int .u64 y.2] 70)).alloc (.cells #[.int .u64 0, .int .u64 0] 70)) (w.heap.size) 70 #[.int .u64 x.1, .int .u64 x.2]) := Lib.hid (by have := (Bk.new w 70 #[.int .u64 x.1, .int .u64 x.2]).alloc (.cells #[.int .u64 y.1, .int .u64 y.2] 70) |>.alloc (.cells #[.int .u64 0, .int .u64 0] 70); simpa using this)
  have HX1 : Hid (Bk (((w.alloc (.cells #[.int .u64 x.1, .int .u64 x.2] 70)).alloc (.cells #[.int .u64 y.1, .int .u64 y.2] 70)).alloc (.cells #[.int .u64 0, .int .u64 0] 70)) (w.heap.size + 1) 70 #[.int .u64 y.1, .int .u64 y.2]) := Lib.hid (by have := (Bk.new (w.alloc (.cells #[.int .u64 x.1, .int .u64 x.2] 70)) 70 #[.int .u64 y.1, .int .u64 y.2]).alloc (.cells #[.int .u64 0, .int .u64 0] 70); simpa using this)
  have HR : Hid (Bk (((w.alloc (.cells #[.int .u64 x.1, .int .u64 x.2] 70)).alloc (.cells #[.int .u64 y.1, .int .u64 y.2] 70)).alloc (.cells #[.int .u64 0, .int .u64 0] 70)) (w.heap.size + 1 + 1) 70 #[.int .u64 0, .int .u64 0]) := Lib.hid (by have := Bk.new ((w.alloc (.cells #[.int .u64 x.1, .int .u64 x.2] 70)).alloc (.cells #[.int .u64 y.1, .int .u64 y.2] 70)) 70 #[.int .u64 0, .int .u64 0]; simpa using this)
  have HG : Hid (w.grownBy (((w.alloc (.cells #[.int .u64 x.1, .int .u64 x.2] 70)).alloc (.cells #[.int .u64 y.1, .int .u64 y.2] 70)).alloc (.cells #[.int .u64 0, .int .u64 0] 70)) none ∧ w.heap.size + 1 + 1 < (((w.alloc (.cells #[.int .u64 x.1, .int .u64 x.2] 70)).alloc (.cells #[.int .u64 y.1, .int .u64 y.2] 70)).alloc (.cells #[.int .u64 0, .int .u64 0] 70)).heap.size) := Lib.hid ⟨((World.grownBy_alloc w _ none).trans (World.grownBy_alloc _ _ none)).trans (World.grownBy_alloc _ _ none), by simp⟩
  have HU := Lib.hid (And.intro hu1 (And.intro hu2 (And.intro hu3 hu4)))
  clear hb hu1 hu2 hu3 hu4
  go_enter Tryz.func78, Tryz.ntmps78
  go_wp2_with fail
  obtain ⟨W, hW⟩ : ∃ W, W = (((w.alloc (.cells #[.int .u64 x.1, .int .u64 x.2] 70)).alloc (.cells #[.int .u64 y.1, .int .u64 y.2] 70)).alloc (.cells #[.int .u64 0, .int .u64 0] 70)) := ⟨_, rfl⟩
  rw [← hW] at HP HR HG HX0 HX1 ⊢
  clear hW
  refine wp_region_mono 15 (by kernel_rfl) (by kernel_rfl) ?_
  refine MonoR.step (Pv.eq (.pointer (some ⟨w.heap.size, 0, none⟩))) [] (by kernel_rfl) (fun w' hw' => ?_) ?_
  · refine ask_do rfl fun K hK => ?_
    go_simp
    exact hK _ _ rfl rfl (World.grownBy.refl _ none)
  refine MonoR.step (Pv.eq (.int .u64 x.1)) [(0, 6)] (by kernel_rfl) (fun w' hw' => ?_) ?_
  · rintro _ rfl
    refine ask_do rfl fun K hK => ?_
    have hq := (HP.out.grown ((grown_drewN' W 1).trans hw') (by simp)).prule
    have hx0 := (HX0.out.grown ((grown_drewN' W 1).trans hw') (by simp)).cell
    have hx1 := (HX1.out.grown ((grown_drewN' W 1).trans hw') (by simp)).cell
    have hx0a := hx0 0; have hx0b := hx0 1; simp at hx0a hx0b; have hx1a := hx1 0; have hx1b := hx1 1; simp at hx1a hx1b
    go_simp
    exact hK _ _ rfl rfl (World.grownBy.refl _ none)
  refine MonoR.step (Pv.eq (.pointer (some ⟨w.heap.size + 1, 0, none⟩))) [] (by kernel_rfl) (fun w' hw' => ?_) ?_
  · refine ask_do rfl fun K hK => ?_
    go_simp
    exact hK _ _ rfl rfl (World.grownBy.refl _ none)
  refine MonoR.step (Pv.eq (.int .u64 y.1)) [(2, 8)] (by kernel_rfl) (fun w' hw' => ?_) ?_
  · rintro _ rfl
    refine ask_do rfl fun K hK => ?_
    have hq := (HP.out.grown ((grown_drewN' W 1).trans hw') (by simp)).prule
    have hx0 := (HX0.out.grown ((grown_drewN' W 1).trans hw') (by simp)).cell
    have hx1 := (HX1.out.grown ((grown_drewN' W 1).trans hw') (by simp)).cell
    have hx0a := hx0 0; have hx0b := hx0 1; simp at hx0a hx0b; have hx1a := hx1 0; have hx1b := hx1 1; simp at hx1a hx1b
    go_simp
    exact hK _ _ rfl rfl (World.grownBy.refl _ none)
  refine MonoR.step (Pv.eq (.pointer (some ⟨gp, 1, none⟩))) [] (by kernel_rfl) (fun w' hw' => ?_) ?_
  · refine ask_do rfl fun K hK => ?_
    go_simp
    exact hK _ _ rfl rfl (World.grownBy.refl _ none)
  refine MonoR.step (Pv.eq (.int .u64 p.Q)) [(4, 10)] (by kernel_rfl) (fun w' hw' => ?_) ?_
  · rintro _ rfl
    refine ask_do rfl fun K hK => ?_
    have hq := (HP.out.grown ((grown_drewN' W 1).trans hw') (by simp)).prule
    have hx0 := (HX0.out.grown ((grown_drewN' W 1).trans hw') (by simp)).cell
    have hx1 := (HX1.out.grown ((grown_drewN' W 1).trans hw') (by simp)).cell
    have hx0a := hx0 0; have hx0b := hx0 1; simp at hx0a hx0b; have hx1a := hx1 0; have hx1b := hx1 1; simp at hx1a hx1b
    go_simp
    exact hK _ _ rfl rfl (World.grownBy.refl _ none)
  refine MonoR.step (Pv.eq (.int .u64 (addI x.1 y.1 p.Q))) [(1, 7), (3, 9), (5, 11)] (by kernel_rfl) (fun w' hw' => ?_) ?_
  · rintro _ rfl
    rintro _ rfl
    rintro _ rfl
    refine ask_do rfl fun K hK => ?_
    go_simp
    refine (add_gr x.1 y.1 p.Q w' HU.out.1 HU.out.2.2.1).mono ?_
    rintro e w3 ⟨rfl, hg⟩
    exact hK _ _ rfl rfl hg
  refine MonoR.step (Pv.eq (.pointer (some ⟨w.heap.size, 1, none⟩))) [] (by kernel_rfl) (fun w' hw' => ?_) ?_
  · refine ask_do rfl fun K hK => ?_
    go_simp
    exact hK _ _ rfl rfl (World.grownBy.refl _ none)
  refine MonoR.step (Pv.eq (.int .u64 x.2)) [(7, 13)] (by kernel_rfl) (fun w' hw' => ?_) ?_
  · rintro _ rfl
    refine ask_do rfl fun K hK => ?_
    have hq := (HP.out.grown ((grown_drewN' W 1).trans hw') (by simp)).prule
    have hx0 := (HX0.out.grown ((grown_drewN' W 1).trans hw') (by simp)).cell
    have hx1 := (HX1.out.grown ((grown_drewN' W 1).trans hw') (by simp)).cell
    have hx0a := hx0 0; have hx0b := hx0 1; simp at hx0a hx0b; have hx1a := hx1 0; have hx1b := hx1 1; simp at hx1a hx1b
    go_simp
    exact hK _ _ rfl rfl (World.grownBy.refl _ none)
  refine MonoR.step (Pv.eq (.pointer (some ⟨w.heap.size + 1, 1, none⟩))) [] (by kernel_rfl) (fun w' hw' => ?_) ?_
  · refine ask_do rfl fun K hK => ?_
    go_simp
    exact hK _ _ rfl rfl (World.grownBy.refl _ none)
  refine MonoR.step (Pv.eq (.int .u64 y.2)) [(9, 15)] (by kernel_rfl) (fun w' hw' => ?_) ?_
  · rintro _ rfl
    refine ask_do rfl fun K hK => ?_
    have hq := (HP.out.grown ((grown_drewN' W 1).trans hw') (by simp)).prule
    have hx0 := (HX0.out.grown ((grown_drewN' W 1).trans hw') (by simp)).cell
    have hx1 := (HX1.out.grown ((grown_drewN' W 1).trans hw') (by simp)).cell
    have hx0a := hx0 0; have hx0b := hx0 1; simp at hx0a hx0b; have hx1a := hx1 0; have hx1b := hx1 1; simp at hx1a hx1b
    go_simp
    exact hK _ _ rfl rfl (World.grownBy.refl _ none)
  refine MonoR.step (Pv.eq (.pointer (some ⟨gp, 1, none⟩))) [] (by kernel_rfl) (fun w' hw' => ?_) ?_
  · refine ask_do rfl fun K hK => ?_
    go_simp
    exact hK _ _ rfl rfl (World.grownBy.refl _ none)
  refine MonoR.step (Pv.eq (.int .u64 p.Q)) [(11, 17)] (by kernel_rfl) (fun w' hw' => ?_) ?_
  · rintro _ rfl
    refine ask_do rfl fun K hK => ?_
    have hq := (HP.out.grown ((grown_drewN' W 1).trans hw') (by simp)).prule
    have hx0 := (HX0.out.grown ((grown_drewN' W 1).trans hw') (by simp)).cell
    have hx1 := (HX1.out.grown ((grown_drewN' W 1).trans hw') (by simp)).cell
    have hx0a := hx0 0; have hx0b := hx0 1; simp at hx0a hx0b; have hx1a := hx1 0; have hx1b := hx1 1; simp at hx1a hx1b
    go_simp
    exact hK _ _ rfl rfl (World.grownBy.refl _ none)
  refine MonoR.step (Pv.eq (.int .u64 (addI x.2 y.2 p.Q))) [(8, 14), (10, 16), (12, 18)] (by kernel_rfl) (fun w' hw' => ?_) ?_
  · rintro _ rfl
    rintro _ rfl
    rintro _ rfl
    refine ask_do rfl fun K hK => ?_
    go_simp
    refine (add_gr x.2 y.2 p.Q w' HU.out.2.1 HU.out.2.2.2).mono ?_
    rintro e w3 ⟨rfl, hg⟩
    exact hK _ _ rfl rfl hg
  refine MonoR.step (Pv.eq (.agg #[.int .u64 (addI x.1 y.1 p.Q), .int .u64 (addI x.2 y.2 p.Q)])) [(6, 12), (13, 19)] (by kernel_rfl) (fun w' hw' => ?_) ?_
  · rintro _ rfl
    rintro _ rfl
    refine ask_do rfl fun K hK => ?_
    go_simp
    exact hK _ _ rfl rfl (World.grownBy.refl _ none)
  intro w3 hw3
  intro y0 e0 y1 e1 y2 e2 y3 e3 y4 e4 y5 e5 y6 e6 y7 e7 y8 e8 y9 e9 y10 e10 y11 e11 y12 e12 y13 e13 y14 e14
  have e0 : y0 = .pointer (some ⟨w.heap.size, 0, none⟩) := e0
  subst e0
  have e1 : y1 = .int .u64 x.1 := e1
  subst e1
  have e2 : y2 = .pointer (some ⟨w.heap.size + 1, 0, none⟩) := e2
  subst e2
  have e3 : y3 = .int .u64 y.1 := e3
  subst e3
  have e4 : y4 = .pointer (some ⟨gp, 1, none⟩) := e4
  subst e4
  have e5 : y5 = .int .u64 p.Q := e5
  subst e5
  have e6 : y6 = .int .u64 (addI x.1 y.1 p.Q) := e6
  subst e6
  have e7 : y7 = .pointer (some ⟨w.heap.size, 1, none⟩) := e7
  subst e7
  have e8 : y8 = .int .u64 x.2 := e8
  subst e8
  have e9 : y9 = .pointer (some ⟨w.heap.size + 1, 1, none⟩) := e9
  subst e9
  have e10 : y10 = .int .u64 y.2 := e10
  subst e10
  have e11 : y11 = .pointer (some ⟨gp, 1, none⟩) := e11
  subst e11
  have e12 : y12 = .int .u64 p.Q := e12
  subst e12
  have e13 : y13 = .int .u64 (addI x.2 y.2 p.Q) := e13
  subst e13
  have e14 : y14 = .agg #[.int .u64 (addI x.1 y.1 p.Q), .int .u64 (addI x.2 y.2 p.Q)] := e14
  subst e14
  simp only [Act.put, List.setIfInBounds_toArray, List.set_cons_zero, List.set_cons_succ]
  have hr3 := HR.out.grown ((grown_drewN' W 1).trans hw3) (by simp)
  have hc0 := hr3.cell 0
  have hc1 := hr3.cell 1
  have hf0 := hr3.free 0
  have hf1 := hr3.free 1
  simp at hc0 hc1
  have hk5 := (hr3.set 0 (.int .u64 (addI x.1 y.1 p.Q))).set 1 (.int .u64 (addI x.2 y.2 p.Q))
  have hk0 := hk5.cell 0
  have hk1 := hk5.cell 1
  simp at hk0 hk1
  have HF : Hid (w.grownBy ((w3.setCell ⟨w.heap.size + 1 + 1, 0, none⟩ (.int .u64 (addI x.1 y.1 p.Q))).setCell ⟨w.heap.size + 1 + 1, 1, none⟩ (.int .u64 (addI x.2 y.2 p.Q))) none) := Lib.hid (grown_of_below (((below_grown (HG.out.1.trans ((grown_drewN' W 1).trans hw3))).setCell (p := ⟨w.heap.size + 1 + 1, 0, none⟩) (by simp <;> omega) _).setCell (p := ⟨w.heap.size + 1 + 1, 1, none⟩) (by simp <;> omega) _))
  clear hw3 hr3 hk5
  refine wpList_plain rfl fun K hK => ?_
  go_simp
  refine hK _ _ (wpList_nil ?_)
  go_wp2_with fail
  refine bodyPost_ret (v := .agg #[.int .u64 (addI x.1 y.1 p.Q), .int .u64 (addI x.2 y.2 p.Q)]) (by simp [results, Tryz.results78, go_sem, *]) rfl ⟨rfl, HF.out⟩
end Go.Proofs.YtiimippmihkgcaaGreatDoor

namespace Go.Proofs.YtiimippmihkgcaaGreatDoor
open Go Go.RowKit

/-- What pairs come to. -/
def comeP (Q : Int) : List (Int × Int) → List Int → Int × Int → Int × Int
  | x :: l, k :: ks, a => comeP Q l ks (addI a.1 (mulI x.1 k Q) Q, addI a.2 (mulI x.2 k Q) Q)
  | _, _, a => a
theorem comeP_snoc (Q : Int) : ∀ (l : List (Int × Int)) (ks : List Int) (a : Int × Int) (j : Nat) (h : j < l.length) (h' : j < ks.length), comeP Q (l.take (j + 1)) (ks.take (j + 1)) a = (addI (comeP Q (l.take j) (ks.take j) a).1 (mulI l[j].1 ks[j] Q) Q, addI (comeP Q (l.take j) (ks.take j) a).2 (mulI l[j].2 ks[j] Q) Q)
  | x :: l, k :: ks, a, 0, _, _ => by simp [comeP]
  | x :: l, k :: ks, a, j + 1, h, h' => by
    simp only [List.take_succ_cons, comeP, List.getElem_cons_succ]
    exact comeP_snoc Q l ks _ j (by simpa using h) (by simpa using h')
theorem comeP_take (Q : Int) : ∀ (l : List (Int × Int)) (ks : List Int) (a : Int × Int), comeP Q l (ks.take l.length) a = comeP Q l ks a
  | [], _, _ => by simp [comeP]
  | _ :: _, [], _ => by simp [comeP]
  | x :: l, k :: ks, a => by simp only [List.length_cons, List.take_succ_cons, comeP]; exact comeP_take Q l ks _
set_option maxRecDepth 100000 in
set_option maxHeartbeats 1000000 in
theorem comeP_any (p : Par) (gp : Nat) (vl vk : Value) (l : List (Int × Int)) (ks : List Int) (a : Int × Int) (X Y : Nat → Prop) (w : World) (hb : Bk w gp 24 p.cells) (hl : Sl encP X w vl l) (hk : Sl encU Y w vk ks) (hlen : l.length ≤ ks.length) (ha : U64 a.1) (ha2 : U64 a.2) (hau : ∀ x y, U64 (addI x y p.Q)) (hmu : ∀ x y, U64 (mulI x y p.Q)) :
    Calls Tryz.prog 80 #[vl, vk, .agg #[.int .u64 a.1, .int .u64 a.2], .func (.func 76) #[] #[.pointer (some ⟨gp, 0, none⟩)], .func (.func 78) #[] #[.pointer (some ⟨gp, 0, none⟩)]] w fun e w' => e = .returned (.agg #[.int .u64 (comeP p.Q l ks a).1, .int .u64 (comeP p.Q l ks a).2]) ∧ w.grownBy w' none := by
  have HB := Lib.hid hb
  have HL := Lib.hid hl
  have HK := Lib.hid hk
  have HLN := Lib.hid hlen
  have HAU := Lib.hid hau
  have HMU := Lib.hid hmu
  have HST : Hid (Bk ((w.alloc (.cells #[.int .u64 a.1, .int .u64 a.2] 70)).alloc (.cells #[.int .u64 0, .int .u64 0] 70)) w.heap.size 70 #[.int .u64 a.1, .int .u64 a.2] ∧ Bk ((w.alloc (.cells #[.int .u64 a.1, .int .u64 a.2] 70)).alloc (.cells #[.int .u64 0, .int .u64 0] 70)) (w.heap.size + 1) 70 #[.int .u64 0, .int .u64 0] ∧ Below w.heap.size w ((w.alloc (.cells #[.int .u64 a.1, .int .u64 a.2] 70)).alloc (.cells #[.int .u64 0, .int .u64 0] 70)) ∧ U64 a.1 ∧ U64 a.2 ∧ a = comeP p.Q (l.take 0) (ks.take 0) a) := Lib.hid ⟨(Bk.new w _ _).alloc _, (by have := Bk.new (w.alloc (.cells #[.int .u64 a.1, .int .u64 a.2] 70)) 70 #[.int .u64 0, .int .u64 0]; simpa using this), below_grown ((World.grownBy_alloc w _ none).trans (World.grownBy_alloc _ _ none)), ha, ha2, by simp [comeP]⟩
  obtain ⟨A, c, rfl, hc1, hc2⟩ := hl.form
  obtain ⟨A2, c2, rfl, hc3, hc4⟩ := hk.form
  clear hb hl hk hlen ha ha2 hau hmu
  go_enter Tryz.func80, Tryz.ntmps80
  go_wp2_with fail
  go_loopg [15] l.length (fun g s15 wx => ∃ (j : Nat) (b : Int × Int), j + g = l.length ∧ s15 = .int .i64 j ∧ Hid (Bk wx w.heap.size 70 #[.int .u64 b.1, .int .u64 b.2] ∧ Bk wx (w.heap.size + 1) 70 #[.int .u64 0, .int .u64 0] ∧ Below w.heap.size w wx ∧ U64 b.1 ∧ U64 b.2 ∧ b = comeP p.Q (l.take j) (ks.take j) a))
  case atStart => exact ⟨0, a, by omega, rfl, HST⟩
  case round =>
    obtain ⟨j, b, hj, rfl, HX⟩ := hrel
    clear HST
    cases gk with
    | zero =>
      obtain rfl : j = l.length := by omega
      have HE : Hid (b = comeP p.Q l ks a) := Lib.hid (by rw [HX.out.2.2.2.2.2, List.take_length, comeP_take])
      have h00 := HX.out.1.cell 0
      have h01 := HX.out.1.cell 1
      have h10 := HX.out.2.1.cell 0
      have h11 := HX.out.2.1.cell 1
      have f10 := HX.out.2.1.free 0
      have f11 := HX.out.2.1.free 1
      have hk5 := (HX.out.2.1.set 0 (.int .u64 b.1)).set 1 (.int .u64 b.2)
      have hk0 := hk5.cell 0
      have hk1 := hk5.cell 1
      simp at h00 h01 h10 h11 hk0 hk1
      have HF : Hid (w.grownBy ((wr.setCell ⟨w.heap.size + 1, 0, none⟩ (.int .u64 b.1)).setCell ⟨w.heap.size + 1, 1, none⟩ (.int .u64 b.2)) none) := Lib.hid (grown_of_below ((HX.out.2.2.1.setCell (p := ⟨w.heap.size + 1, 0, none⟩) (by simp) _).setCell (p := ⟨w.heap.size + 1, 1, none⟩) (by simp) _))
      clear HX hk5
      go_wp2_with fail
      refine bodyPost_ret (v := .agg #[.int .u64 b.1, .int .u64 b.2]) (by simp [results, Tryz.results80, go_sem, *]) rfl ⟨by rw [HE.out], HF.out⟩
    | succ m =>
      have hjn : (j : Int) < (l.length : Int) := by omega
      have hjN : j < l.length := by omega
      have hjK : j < ks.length := Nat.lt_of_lt_of_le hjN HLN.out
      have hjk : (j : Int) < (ks.length : Int) := by omega
      have hg := grown_of_below HX.out.2.2.1
      obtain ⟨g, o, c', e, _, _, hcu, hcu1, hux, hux1⟩ := (HL.out.kept hg).atP hjN
      injection e with e1 e2 e3
      subst e1 e3
      obtain ⟨g2, o2, c2', e, _, _, hcu2, huk⟩ := HK.out.atU hjK
      injection e with e1 e2 e3
      subst e1 e3
      have HSN : Hid (comeP p.Q (l.take (j + 1)) (ks.take (j + 1)) a = (addI b.1 (mulI l[j].1 ks[j] p.Q) p.Q, addI b.2 (mulI l[j].2 ks[j] p.Q) p.Q)) := Lib.hid (by rw [comeP_snoc _ _ _ _ _ hjN hjK, ← HX.out.2.2.2.2.2])
      have HKC0 := Lib.hid hcu2
      have HUX : Hid (U64 l[j].1 ∧ U64 l[j].2 ∧ U64 ks[j]) := Lib.hid ⟨hux, hux1, huk⟩
      clear hcu2 hux hux1 huk hg
      obtain ⟨b1, b2⟩ := b
      generalize l[j] = x at *
      obtain ⟨x1, x2⟩ := x
      generalize ks[j] = k at *
      generalize l.length = n at *
      generalize ks.length = n2 at *
      dsimp only at hcu hcu1
      have HHX := HX
      clear HX
      go_wp2_with fail
      obtain ⟨W, hW⟩ : ∃ W, W = wr.alloc (Obj.cells #[.int .u64 x1, .int .u64 x2] 70) := ⟨_, rfl⟩
      rw [← hW]
      have HB0 : Hid (Bk W.drew w.heap.size 70 #[.int .u64 b1, .int .u64 b2]) := Lib.hid (by rw [hW]; exact HHX.out.1.alloc _)
      have HB1 : Hid (Bk W.drew (w.heap.size + 1) 70 #[.int .u64 0, .int .u64 0]) := Lib.hid (by rw [hW]; exact HHX.out.2.1.alloc _)
      have HY0 : Hid (Bk W.drew wr.heap.size 70 #[.int .u64 x1, .int .u64 x2]) := Lib.hid (by rw [hW]; exact Bk.new wr _ _)
      have hBL := HHX.out.2.2.1
      have HGW : Hid (w.grownBy W.drew none) := Lib.hid (by rw [hW]; exact ((grown_of_below hBL).trans (World.grownBy_alloc _ _ none)).trans (grown_drewN' _ 1))
      have HKC : Hid (∀ w', W.drew.grownBy w' none → w'.cell? ⟨g2, o2 + j, none⟩ = some (.int .u64 k)) := Lib.hid (fun w' hw' => cell_kept HKC0.out (HGW.out.trans hw') (by simp))
      have HGP : Hid (Bk W.drew gp 24 p.cells) := Lib.hid (HB.out.grown HGW.out (by simp))
      have H2 : Hid (∀ w', W.drew.grownBy w' none → Calls Tryz.prog 76 #[.agg #[.int .u64 x1, .int .u64 x2], .int .u64 k, .pointer (some ⟨gp, 0, none⟩)] w' fun e w'' => e = .returned (.agg #[.int .u64 (mulI x1 k p.Q), .int .u64 (mulI x2 k p.Q)]) ∧ w'.grownBy w'' none) := Lib.hid (fun w' hw' => sum2_any p gp (x1, x2) k w' (HGP.out.grown hw' (by simp)) HUX.out.1 HUX.out.2.1 HUX.out.2.2 trivial)
      have H3 : Hid (∀ w', W.drew.grownBy w' none → Calls Tryz.prog 78 #[.agg #[.int .u64 b1, .int .u64 b2], .agg #[.int .u64 (mulI x1 k p.Q), .int .u64 (mulI x2 k p.Q)], .pointer (some ⟨gp, 0, none⟩)] w' fun e w'' => e = .returned (.agg #[.int .u64 (addI b1 (mulI x1 k p.Q) p.Q), .int .u64 (addI b2 (mulI x2 k p.Q) p.Q)]) ∧ w'.grownBy w'' none) := Lib.hid (fun w' hw' => sum3_any p gp (b1, b2) (mulI x1 k p.Q, mulI x2 k p.Q) w' (HGP.out.grown hw' (by simp)) HHX.out.2.2.2.1 HHX.out.2.2.2.2.1 (HMU.out _ _) (HMU.out _ _))
      clear hW hBL hcu hcu1
      refine wp_region_mono 10 (by kernel_rfl) (by kernel_rfl) ?_
      refine MonoR.step (Pv.eq (.func (.func 78) #[] #[.pointer (some ⟨gp, 0, none⟩)])) [] (by kernel_rfl) (fun w' hw' => ?_) ?_
      · refine ask_do rfl fun K hK => ?_
        go_simp
        exact hK _ _ rfl rfl (World.grownBy.refl _ none)
      refine MonoR.step (Pv.eq (.agg #[.int .u64 (b1), .int .u64 (b2)])) [] (by kernel_rfl) (fun w' hw' => ?_) ?_
      · refine ask_do rfl fun K hK => ?_
        have hb0 := (HB0.out.grown hw' (by simp)).cell 0
        have hb1 := (HB0.out.grown hw' (by simp)).cell 1
        have hy0 := (HY0.out.grown hw' (by simp)).cell 0
        have hy1 := (HY0.out.grown hw' (by simp)).cell 1
        have hkc := HKC.out w' hw'
        simp at hb0 hb1 hy0 hy1
        go_simp
        exact hK _ _ rfl rfl (World.grownBy.refl _ none)
      refine MonoR.step (Pv.eq (.func (.func 76) #[] #[.pointer (some ⟨gp, 0, none⟩)])) [] (by kernel_rfl) (fun w' hw' => ?_) ?_
      · refine ask_do rfl fun K hK => ?_
        go_simp
        exact hK _ _ rfl rfl (World.grownBy.refl _ none)
      refine MonoR.step (Pv.eq (.agg #[.int .u64 (x1), .int .u64 (x2)])) [] (by kernel_rfl) (fun w' hw' => ?_) ?_
      · refine ask_do rfl fun K hK => ?_
        have hb0 := (HB0.out.grown hw' (by simp)).cell 0
        have hb1 := (HB0.out.grown hw' (by simp)).cell 1
        have hy0 := (HY0.out.grown hw' (by simp)).cell 0
        have hy1 := (HY0.out.grown hw' (by simp)).cell 1
        have hkc := HKC.out w' hw'
        simp at hb0 hb1 hy0 hy1
        go_simp
        exact hK _ _ rfl rfl (World.grownBy.refl _ none)
      refine MonoR.step (Pv.eq (.slice (some ⟨g2, o2, none⟩) n2 c2)) [] (by kernel_rfl) (fun w' hw' => ?_) ?_
      · refine ask_do rfl fun K hK => ?_
        go_simp
        exact hK _ _ rfl rfl (World.grownBy.refl _ none)
      refine MonoR.step (Pv.eq (.int .i64 j)) [] (by kernel_rfl) (fun w' hw' => ?_) ?_
      · refine ask_do rfl fun K hK => ?_
        go_simp
        exact hK _ _ rfl rfl (World.grownBy.refl _ none)
      refine MonoR.step (Pv.eq (.pointer (some ⟨g2, o2 + j, none⟩))) [(4, 24), (5, 25)] (by kernel_rfl) (fun w' hw' => ?_) ?_
      · rintro _ rfl
        rintro _ rfl
        refine ask_do rfl fun K hK => ?_
        go_simp
        exact hK _ _ rfl rfl (World.grownBy.refl _ none)
      refine MonoR.step (Pv.eq (.int .u64 k)) [(6, 26)] (by kernel_rfl) (fun w' hw' => ?_) ?_
      · rintro _ rfl
        refine ask_do rfl fun K hK => ?_
        have hb0 := (HB0.out.grown hw' (by simp)).cell 0
        have hb1 := (HB0.out.grown hw' (by simp)).cell 1
        have hy0 := (HY0.out.grown hw' (by simp)).cell 0
        have hy1 := (HY0.out.grown hw' (by simp)).cell 1
        have hkc := HKC.out w' hw'
        simp at hb0 hb1 hy0 hy1
        go_simp
        exact hK _ _ rfl rfl (World.grownBy.refl _ none)
      refine MonoR.step (Pv.eq (.agg #[.int .u64 (mulI x1 k p.Q), .int .u64 (mulI x2 k p.Q)])) [(2, 22), (3, 23), (7, 27)] (by kernel_rfl) (fun w' hw' => ?_) ?_
      · rintro _ rfl
        rintro _ rfl
        rintro _ rfl
        refine ask_do rfl fun K hK => ?_
        go_simp
        refine (H2.out w' hw').mono ?_
        rintro e w3 ⟨rfl, hg⟩
        exact hK _ _ rfl rfl hg
      refine MonoR.step (Pv.eq (.agg #[.int .u64 (addI b1 (mulI x1 k p.Q) p.Q), .int .u64 (addI b2 (mulI x2 k p.Q) p.Q)])) [(0, 20), (1, 21), (8, 28)] (by kernel_rfl) (fun w' hw' => ?_) ?_
      · rintro _ rfl
        rintro _ rfl
        rintro _ rfl
        refine ask_do rfl fun K hK => ?_
        go_simp
        refine (H3.out w' hw').mono ?_
        rintro e w3 ⟨rfl, hg⟩
        exact hK _ _ rfl rfl hg
      intro w3 hw3
      intro y0 e0 y1 e1 y2 e2 y3 e3 y4 e4 y5 e5 y6 e6 y7 e7 y8 e8 y9 e9
      have e0 : y0 = .func (.func 78) #[] #[.pointer (some ⟨gp, 0, none⟩)] := e0
      subst e0
      have e1 : y1 = .agg #[.int .u64 (b1), .int .u64 (b2)] := e1
      subst e1
      have e2 : y2 = .func (.func 76) #[] #[.pointer (some ⟨gp, 0, none⟩)] := e2
      subst e2
      have e3 : y3 = .agg #[.int .u64 (x1), .int .u64 (x2)] := e3
      subst e3
      have e4 : y4 = .slice (some ⟨g2, o2, none⟩) n2 c2 := e4
      subst e4
      have e5 : y5 = .int .i64 j := e5
      subst e5
      have e6 : y6 = .pointer (some ⟨g2, o2 + j, none⟩) := e6
      subst e6
      have e7 : y7 = .int .u64 k := e7
      subst e7
      have e8 : y8 = .agg #[.int .u64 (mulI x1 k p.Q), .int .u64 (mulI x2 k p.Q)] := e8
      subst e8
      have e9 : y9 = .agg #[.int .u64 (addI b1 (mulI x1 k p.Q) p.Q), .int .u64 (addI b2 (mulI x2 k p.Q) p.Q)] := e9
      subst e9
      simp only [Act.put, List.setIfInBounds_toArray, List.set_cons_zero, List.set_cons_succ]
      have hr3 := HB0.out.grown hw3 (by simp)
      have hc0 := hr3.cell 0
      have hc1 := hr3.cell 1
      have hf0 := hr3.free 0
      have hf1 := hr3.free 1
      simp at hc0 hc1
      have HFIN : Hid (Bk ((w3.setCell ⟨w.heap.size, 0, none⟩ (.int .u64 (addI b1 (mulI x1 k p.Q) p.Q))).setCell ⟨w.heap.size, 1, none⟩ (.int .u64 (addI b2 (mulI x2 k p.Q) p.Q))) w.heap.size 70 #[.int .u64 (addI b1 (mulI x1 k p.Q) p.Q), .int .u64 (addI b2 (mulI x2 k p.Q) p.Q)] ∧ Bk ((w3.setCell ⟨w.heap.size, 0, none⟩ (.int .u64 (addI b1 (mulI x1 k p.Q) p.Q))).setCell ⟨w.heap.size, 1, none⟩ (.int .u64 (addI b2 (mulI x2 k p.Q) p.Q))) (w.heap.size + 1) 70 #[.int .u64 0, .int .u64 0] ∧ Below w.heap.size w ((w3.setCell ⟨w.heap.size, 0, none⟩ (.int .u64 (addI b1 (mulI x1 k p.Q) p.Q))).setCell ⟨w.heap.size, 1, none⟩ (.int .u64 (addI b2 (mulI x2 k p.Q) p.Q))) ∧ U64 (addI b1 (mulI x1 k p.Q) p.Q) ∧ U64 (addI b2 (mulI x2 k p.Q) p.Q) ∧ (addI b1 (mulI x1 k p.Q) p.Q, addI b2 (mulI x2 k p.Q) p.Q) = comeP p.Q (l.take (j + 1)) (ks.take (j + 1)) a) := Lib.hid ⟨by have := (hr3.set 0 (.int .u64 (addI b1 (mulI x1 k p.Q) p.Q))).set 1 (.int .u64 (addI b2 (mulI x2 k p.Q) p.Q)); simpa using this, ((HB1.out.grown hw3 (by simp)).far (p := ⟨w.heap.size, 0, none⟩) (by simp) _).far (p := ⟨w.heap.size, 1, none⟩) (by simp) _, (((below_grown (HGW.out.trans hw3))).setCell (p := ⟨w.heap.size, 0, none⟩) (by simp) _).setCell (p := ⟨w.heap.size, 1, none⟩) (by simp) _, HAU.out _ _, HAU.out _ _, HSN.out.symm⟩
      clear hw3 hr3
      refine wpList_plain rfl fun K hK => ?_
      go_simp
      refine hK _ _ (wpList_nil ?_)
      go_wp2_with fail
      go_roundg m
      case measure => omega
      case rel => exact ⟨j + 1, (addI b1 (mulI x1 k p.Q) p.Q, addI b2 (mulI x2 k p.Q) p.Q), by omega, by go_num, HFIN⟩
end Go.Proofs.YtiimippmihkgcaaGreatDoor

namespace Go.Proofs.YtiimippmihkgcaaGreatDoor
open Go Go.RowKit

/-- What is wrong with a sum. -/
noncomputable def sumE (p : Par) (at_ : List Int) (l : List (List (Int × Int))) : Int := if smallB p && membersB at_ && at_.length == l.length && !l.any (fun x => oddB p x) then wErr p.Q at_ 0 else 1
/-- What pairs of members come to. -/
noncomputable def sumL (p : Par) (at_ : List Int) (l : List (List (Int × Int))) : List (Int × Int) := if sumE p at_ l = 0 then (List.range (secretsI p).toNat).map fun s => comeP p.Q (l.map fun x => x[s]?.getD (0, 0)) (wList p.Q at_ 0) (0, 0) else []
theorem wrap64_small {n : Int} (h : -9223372036854775808 ≤ n ∧ n ≤ 9223372036854775807) : wrap64 n = n := by unfold wrap64; omega
theorem addI_u64 (a b m : Int) (hm : mayB m = true) : U64 (addI a b m) := by
  unfold addI
  rw [if_pos hm]
  simp [mayB] at hm
  have h1 := Int.emod_nonneg (a % m + b % m) (show m ≠ 0 by omega)
  have h2 := Int.emod_lt_of_pos (a % m + b % m) hm.1
  exact ⟨h1, by omega⟩
theorem comeP_U64 (Q : Int) (h : ∀ x y, U64 (addI x y Q)) : ∀ (l : List (Int × Int)) (ks : List Int) (a : Int × Int), U64 a.1 → U64 a.2 → U64 (comeP Q l ks a).1 ∧ U64 (comeP Q l ks a).2
  | [], _, _, h1, h2 => ⟨h1, h2⟩
  | _ :: _, [], _, h1, h2 => ⟨h1, h2⟩
  | _ :: l, _ :: ks, _, _, _ => comeP_U64 Q h l ks _ (h _ _) (h _ _)
theorem smallB_secrets {p : Par} (h : smallB p = true) : 0 ≤ secretsI p ∧ secretsI p ≤ 10 := by
  simp [smallB] at h
  obtain ⟨h1, h2, h3, h4⟩ := h
  have e1 : wrap64 (p.D + 1) = p.D + 1 := wrap64_small (by omega)
  have h5 : 0 ≤ p.K * (p.D + 1) := Int.mul_nonneg h1 (by omega)
  have h6 : p.K * (p.D + 1) ≤ 2 * 5 := Int.mul_le_mul h3 (by omega) (by omega) (by omega)
  have e2 : secretsI p = p.K * (p.D + 1) := by unfold secretsI; rw [e1]; exact wrap64_small (by omega)
  rw [e2]
  omega
set_option maxRecDepth 100000 in
set_option maxHeartbeats 1000000 in
theorem sum_any (p : Par) (va : Value) (at_ : List Int) (vl : Value) (l : List (List (Int × Int))) (X Y : Nat → Prop) (w : World) (hp : p.ok) (ha : Sl encI X w va at_) (hl : Sl (encS encP) Y w vl l) (hb1 : at_.length ≤ 100000) (hb2 : l.length ≤ 100000) :
    Calls Tryz.prog 16 #[p.v, va, vl] w (GivesE encP (fun g => w.heap.size ≤ g) w (sumL p at_ l) (sumE p at_ l)) := by
  have HB : Hid (Bk (w.alloc (.cells p.cells 24)) w.heap.size 24 p.cells) := Lib.hid (Bk.new w _ _)
  have HG0 : Hid (w.grownBy (w.alloc (.cells p.cells 24)) none) := Lib.hid (World.grownBy_alloc w _ none)
  have HS1 := Lib.hid (ssmall_any p)
  have HS2 : Hid (∀ w', w.grownBy w' none → _) := Lib.hid (fun w' hw => members_any va at_ X w' (ha.kept hw))
  have HS4 : Hid (∀ w', w.grownBy w' none → Bk w' w.heap.size 24 p.cells → _) := Lib.hid (fun w' hw hbk => containsOdd p w.heap.size vl l Y w' hbk (hl.kept hw))
  have HA := Lib.hid ha
  have HL := Lib.hid hl
  have HQ := Lib.hid hp.Q
  obtain ⟨A, c, rfl, _, _⟩ := ha.form
  obtain ⟨A2, c2, rfl, _, _⟩ := hl.form
  clear ha hl hp
  cases b1 : smallB p with
  | false =>
    have h1 : sumE p at_ l = 1 := by simp [sumE, b1]
    have HL0 : Hid (sumL p at_ l = []) := Lib.hid (by simp [sumL, h1])
    rw [h1]
    clear h1
    rw [b1] at HS1
    clear b1 HS2 HS4 HA HL
    go_enter Tryz.func16, Tryz.ntmps16
    go_wp2_with fail
    refine (HS1.out _).mono ?_
    rintro e w1 ⟨rfl, hg1⟩
    have HG1 := Lib.hid (HG0.out.trans hg1)
    have HB1 := Lib.hid (HB.out.grown hg1 (by simp))
    clear hg1
    go_wp2_with fail
    go_ret2
    exact ⟨_, rfl, by rw [HL0.out]; exact Sl.nil _ _ _, HG1.out⟩
  | true =>
    cases b2 : membersB at_ with
    | false =>
      have h1 : sumE p at_ l = 1 := by simp [sumE, b2]
      have HL0 : Hid (sumL p at_ l = []) := Lib.hid (by simp [sumL, h1])
      rw [h1]
      clear h1
      rw [b1] at HS1
      rw [b2] at HS2
      clear b1 b2 HS4 HA HL
      go_enter Tryz.func16, Tryz.ntmps16
      go_wp2_with fail
      refine (HS1.out _).mono ?_
      rintro e w1 ⟨rfl, hg1⟩
      have HG1 := Lib.hid (HG0.out.trans hg1)
      have HB1 := Lib.hid (HB.out.grown hg1 (by simp))
      clear hg1
      go_wp2_with fail
      refine (HS2.out _ HG1.out).mono ?_
      rintro e w2 ⟨rfl, hg2⟩
      have HG2 := Lib.hid (HG1.out.trans hg2)
      have HB2 := Lib.hid (HB1.out.grown hg2 (by simp))
      clear hg2
      go_wp2_with fail
      go_ret2
      exact ⟨_, rfl, by rw [HL0.out]; exact Sl.nil _ _ _, HG2.out⟩
    | true =>
      rw [b1] at HS1
      rw [b2] at HS2
      by_cases h3 : at_.length = l.length
      · have d3 : ((at_.length : Int) != (l.length : Int)) = false := by simp [h3]
        cases b4 : l.any fun x => oddB p x with
        | true =>
          have h1 : sumE p at_ l = 1 := by unfold sumE; rw [b4]; simp
          have HL0 : Hid (sumL p at_ l = []) := Lib.hid (by simp [sumL, h1])
          rw [h1]
          clear h1
          rw [b4] at HS4
          clear b1 b2 b4 h3 HA HL
          generalize at_.length = n1 at *
          generalize l.length = n2 at *
          go_enter Tryz.func16, Tryz.ntmps16
          go_wp2_with fail
          refine (HS1.out _).mono ?_
          rintro e w1 ⟨rfl, hg1⟩
          have HG1 := Lib.hid (HG0.out.trans hg1)
          have HB1 := Lib.hid (HB.out.grown hg1 (by simp))
          clear hg1
          go_wp2_with fail
          refine (HS2.out _ HG1.out).mono ?_
          rintro e w2 ⟨rfl, hg2⟩
          have HG2 := Lib.hid (HG1.out.trans hg2)
          have HB2 := Lib.hid (HB1.out.grown hg2 (by simp))
          clear hg2
          go_wp2_with fail
          refine (HS4.out _ HG2.out HB2.out).mono ?_
          rintro e w3 ⟨rfl, hg3⟩
          have HG3 := Lib.hid (HG2.out.trans hg3)
          have HB3 := Lib.hid (HB2.out.grown hg3 (by simp))
          have hp3 := HB3.out.prule
          clear hg3
          go_wp2_with fail
          go_ret2
          exact ⟨_, rfl, by rw [HL0.out]; exact Sl.nil _ _ _, HG3.out⟩
        | false =>
          have h1 : sumE p at_ l = wErr p.Q at_ 0 := by unfold sumE; rw [b1, b2, b4]; simp [h3]
          obtain ⟨hn0, hm⟩ := membersB_yes b2
          have HW : Hid (∀ w', w.grownBy w' none → _) := Lib.hid (fun w' hw => sweights_any _ at_ p.Q X w' (HA.out.kept hw) hm HQ.out hb1)
          rw [b4] at HS4
          have hsec := smallB_secrets b1
          have HSE := Lib.hid (ssecrets_any p)
          obtain ⟨we, hwe⟩ : ∃ we, we = wErr p.Q at_ 0 := ⟨_, rfl⟩
          obtain ⟨wl, hwl⟩ : ∃ wl, wl = wList p.Q at_ 0 := ⟨_, rfl⟩
          rw [← hwe, ← hwl] at HW
          rw [← hwe] at h1
          by_cases he : we = 0
          · subst he
            obtain ⟨N, hN⟩ : ∃ N, N = (secretsI p).toNat := ⟨_, rfl⟩
            have HN : Hid (secretsI p = (N : Int) ∧ N ≤ 10) := Lib.hid (by omega)
            have HLL : Hid (sumL p at_ l = (List.range N).map (fun s => comeP p.Q (l.map fun x => x[s]?.getD (0, 0)) wl (0, 0))) := Lib.hid (by rw [sumL, if_pos h1, hwl, hN])
            have hun : unlikeI at_ p.Q = 0 := by
              refine Classical.byContradiction fun hx => hx ?_
              have h2 := hwe
              unfold wErr at h2
              rw [if_neg hx] at h2
              exact h2.symm
            have HM := Lib.hid (unlikeI_zero hun).1
            have HWLN : Hid (l.length ≤ wl.length) := Lib.hid (by rw [hwl, wList, if_pos hwe.symm, List.length_map, List.length_range, h3]; exact Nat.le_refl _)
            have HAL : Hid (∀ s w', s < N → w.grownBy w' none → _) := Lib.hid (fun s w' (hs : s < N) (hw : w.grownBy w' none) => allP_any _ l s Y w' (HL.out.kept hw) (fun x hx => by
              have hb := List.any_eq_false.1 b4 x hx
              simp [oddB] at hb
              have := HN.out.1
              omega) hb2 (by have := HN.out.2; omega))
            have HAU : Hid (∀ x y, U64 (addI x y p.Q)) := Lib.hid (fun x y => addI_u64 x y _ HM.out)
            have HMU : Hid (∀ x y, U64 (mulI x y p.Q)) := Lib.hid (fun x y => by have h5 := mulI_bd x y p.Q HM.out; have h6 := HM.out; simp [mayB] at h6; exact ⟨h5.1, by omega⟩)
            rw [HN.out.1] at HSE
            rw [h1]
            clear h1 hwe hwl b1 b2 b4 h3 hn0 hm hsec hN hun HA
            generalize hn1 : at_.length = n1 at *
            generalize hn2 : l.length = n2 at *
            clear hn1
            go_enter Tryz.func16, Tryz.ntmps16
            go_wp2_with fail
            refine (HS1.out _).mono ?_
            rintro e w1 ⟨rfl, hg1⟩
            have HG1 := Lib.hid (HG0.out.trans hg1)
            have HB1 := Lib.hid (HB.out.grown hg1 (by simp))
            clear hg1
            go_wp2_with fail
            refine (HS2.out _ HG1.out).mono ?_
            rintro e w2 ⟨rfl, hg2⟩
            have HG2 := Lib.hid (HG1.out.trans hg2)
            have HB2 := Lib.hid (HB1.out.grown hg2 (by simp))
            clear hg2
            go_wp2_with fail
            refine (HS4.out _ HG2.out HB2.out).mono ?_
            rintro e w3 ⟨rfl, hg3⟩
            have HG3 := Lib.hid (HG2.out.trans hg3)
            have HB3 := Lib.hid (HB2.out.grown hg3 (by simp))
            have hp3 := HB3.out.prule
            clear hg3
            go_wp2_with fail
            refine (HW.out _ HG3.out).mono ?_
            rintro e w4 ⟨vw, rfl, hsw, hg4⟩
            have HG4 := Lib.hid (HG3.out.trans hg4)
            have HB4 := Lib.hid (HB3.out.grown hg4 (by simp))
            have hp4 := HB4.out.prule
            have HSW := Lib.hid hsw
            clear hg4 hsw hp3
            go_wp2_with fail
            refine (HSE.out _).mono ?_
            rintro e w5 ⟨rfl, hg5⟩
            have HG5 := Lib.hid (HG4.out.trans hg5)
            have HB5 := Lib.hid (HB4.out.grown hg5 (by simp))
            have HSW5 := Lib.hid (HSW.out.kept hg5)
            clear hg5 hp4
            go_wp2_with fail
            go_loopg [13, 50] N (fun g s13 s50 wx => ∃ j : Nat, j + g = N ∧ s50 = .int .i64 j ∧ Hid (Acc encP w5.heap.size 70 (fun g => w.heap.size ≤ g) wx s13 ((List.range j).map (fun s => comeP p.Q (l.map fun x => x[s]?.getD (0, 0)) wl (0, 0))) ∧ w5.grownBy wx none))
            case atStart => exact ⟨0, by omega, rfl, Lib.hid ⟨Acc.nil _ _ _ _ _, World.grownBy.refl _ none⟩⟩
            case round =>
              obtain ⟨j, hj, rfl, HX⟩ := hrel
              cases gk with
              | zero =>
                obtain rfl : j = N := by omega
                have HR : Hid (Sl encP (fun g => w.heap.size ≤ g) wr u13 (sumL p at_ l) ∧ w.grownBy wr none) := Lib.hid ⟨by rw [HLL.out]; exact HX.out.1.sl, HG5.out.trans HX.out.2⟩
                clear HX
                go_wp2
                go_ret2
                exact ⟨_, rfl, HR.out.1, HR.out.2⟩
              | succ m =>
                have hjn : (j : Int) < (N : Int) := by omega
                have hjN : j < N := by omega
                have hN10 : N ≤ 10 := HN.out.2
                have HSN : Hid ((List.range (j + 1)).map (fun s => comeP p.Q (l.map fun x => x[s]?.getD (0, 0)) wl (0, 0)) = (List.range j).map (fun s => comeP p.Q (l.map fun x => x[s]?.getD (0, 0)) wl (0, 0)) ++ [(fun s => comeP p.Q (l.map fun x => x[s]?.getD (0, 0)) wl (0, 0)) j]) := Lib.hid (by simp [List.range_succ])
                have HAC := Lib.hid HX.out.1
                have HG6 := Lib.hid HX.out.2
                have HLB : Hid ((((List.range j).map (fun s => comeP p.Q (l.map fun x => x[s]?.getD (0, 0)) wl (0, 0))).length + 1) * 16 ≤ 140737488355328) := Lib.hid (by have := HN.out.2; simp; omega)
                have HA6 := Lib.hid (HAL.out j wr hjN (HG5.out.trans HX.out.2))
                clear HX
                go_wp2_with fail
                refine HA6.out.mono ?_
                rintro e w7 ⟨v7, rfl, hs7, hg7⟩
                have HG7 := Lib.hid (HG6.out.trans hg7)
                have HAC7 := Lib.hid (HAC.out.kept hg7)
                have HC := Lib.hid (comeP_any p w.heap.size v7 vw _ wl (0, 0) _ _ w7 (HB5.out.grown HG7.out (by simp)) hs7 (HSW5.out.kept HG7.out) (by rw [List.length_map, hn2]; exact HWLN.out) ⟨by decide, by decide⟩ ⟨by decide, by decide⟩ HAU.out HMU.out)
                obtain ⟨A7, c7, e7, _, _⟩ := hs7.form
                subst e7
                clear hs7 hg7
                have hlenc : (l.map fun x => x[j]?.getD (0, 0)).length = n2 := by rw [List.length_map, hn2]
                rw [hlenc] at HC ⊢
                clear hlenc
                obtain ⟨r, hr⟩ : ∃ r, r = comeP p.Q (l.map fun x => x[j]?.getD (0, 0)) wl (0, 0) := ⟨_, rfl⟩
                rw [← hr] at HC
                have HRU : Hid (U64 r.1 ∧ U64 r.2) := Lib.hid (by rw [hr]; exact comeP_U64 p.Q HAU.out _ _ _ ⟨by decide, by decide⟩ ⟨by decide, by decide⟩)
                have HSN2 : Hid ((List.range (j + 1)).map (fun s => comeP p.Q (l.map fun x => x[s]?.getD (0, 0)) wl (0, 0)) = (List.range j).map (fun s => comeP p.Q (l.map fun x => x[s]?.getD (0, 0)) wl (0, 0)) ++ [r]) := Lib.hid (by rw [hr]; exact HSN.out)
                clear hr
                go_wp2_with fail
                refine HC.out.mono ?_
                rintro e w8 ⟨rfl, hg8⟩
                have HG8 := Lib.hid (HG7.out.trans hg8)
                have HAC8 := Lib.hid (HAC7.out.kept hg8)
                have HWB : Hid (∀ g, w5.heap.size ≤ g → w.heap.size ≤ g) := Lib.hid (fun g h => Nat.le_trans HG5.out.size h)
                clear hg8
                go_wp2_with (at_builtin; refine wpList_pushG rfl (.tmp 53) (.tmp 62) rfl (E := encP) el_pair HG8.out HAC8.out HWB.out ⟨rfl, HRU.out⟩ HLB.out rfl rfl ?_)
                intro v2 w9 hacc2 hg9 hgo
                have HFIN : Hid (Acc encP w5.heap.size 70 (fun g => w.heap.size ≤ g) w9 v2 ((List.range (j + 1)).map (fun s => comeP p.Q (l.map fun x => x[s]?.getD (0, 0)) wl (0, 0))) ∧ w5.grownBy w9 none) := Lib.hid ⟨by rw [HSN2.out]; simpa using hacc2, hg9⟩
                clear hacc2 hg9 hgo
                go_wp2_with fail
                go_roundg m
                case measure => omega
                case rel => exact ⟨j + 1, by omega, by go_num, HFIN⟩
          · have HL0 : Hid (sumL p at_ l = []) := Lib.hid (by simp [sumL, h1, he])
            rw [h1]
            clear h1 hwe hwl b1 b2 b4 h3 hn0 hm hsec HA HL
            generalize at_.length = n1 at *
            generalize l.length = n2 at *
            go_enter Tryz.func16, Tryz.ntmps16
            go_wp2_with fail
            refine (HS1.out _).mono ?_
            rintro e w1 ⟨rfl, hg1⟩
            have HG1 := Lib.hid (HG0.out.trans hg1)
            have HB1 := Lib.hid (HB.out.grown hg1 (by simp))
            clear hg1
            go_wp2_with fail
            refine (HS2.out _ HG1.out).mono ?_
            rintro e w2 ⟨rfl, hg2⟩
            have HG2 := Lib.hid (HG1.out.trans hg2)
            have HB2 := Lib.hid (HB1.out.grown hg2 (by simp))
            clear hg2
            go_wp2_with fail
            refine (HS4.out _ HG2.out HB2.out).mono ?_
            rintro e w3 ⟨rfl, hg3⟩
            have HG3 := Lib.hid (HG2.out.trans hg3)
            have HB3 := Lib.hid (HB2.out.grown hg3 (by simp))
            have hp3 := HB3.out.prule
            clear hg3
            go_wp2_with fail
            refine (HW.out _ HG3.out).mono ?_
            rintro e w4 ⟨vw, rfl, hsw, hg4⟩
            have HG4 := Lib.hid (HG3.out.trans hg4)
            clear hsw hg4 hp3
            go_wp2_with fail
            go_ret2
            exact ⟨_, rfl, by rw [HL0.out]; exact Sl.nil _ _ _, HG4.out⟩
      · have d3 : ((at_.length : Int) != (l.length : Int)) = true := by simp; omega
        have h1 : sumE p at_ l = 1 := by simp [sumE, h3]
        have HL0 : Hid (sumL p at_ l = []) := Lib.hid (by simp [sumL, h1])
        rw [h1]
        clear h1
        clear b1 b2 h3 HA HL HS4
        generalize at_.length = n1 at *
        generalize l.length = n2 at *
        go_enter Tryz.func16, Tryz.ntmps16
        go_wp2_with fail
        refine (HS1.out _).mono ?_
        rintro e w1 ⟨rfl, hg1⟩
        have HG1 := Lib.hid (HG0.out.trans hg1)
        have HB1 := Lib.hid (HB.out.grown hg1 (by simp))
        clear hg1
        go_wp2_with fail
        refine (HS2.out _ HG1.out).mono ?_
        rintro e w2 ⟨rfl, hg2⟩
        have HG2 := Lib.hid (HG1.out.trans hg2)
        have HB2 := Lib.hid (HB1.out.grown hg2 (by simp))
        clear hg2
        go_wp2_with fail
        go_ret2
        exact ⟨_, rfl, by rw [HL0.out]; exact Sl.nil _ _ _, HG2.out⟩
end Go.Proofs.YtiimippmihkgcaaGreatDoor

namespace Go.Proofs.YtiimippmihkgcaaGreatDoor
open Go Go.RowKit

/-- The whole number of a number. -/
def fixI (x q : Int) : Int := if q = 0 then 0 else if addI x 0 q ≤ (q - 1) / 2 then addI x 0 q else addI x 0 q - q
set_option maxHeartbeats 400000 in
theorem fixInt_any (x q : Int) (w : World) (hx : U64 x) (hq : U64 q) :
    Calls Tryz.prog 85 #[.int .u64 x, .int .u64 q] w fun e w' => e = .returned (.int .i64 (fixI x q)) ∧ w.grownBy w' none := by
  have HA := Lib.hid (add_gr x 0 q w hx ⟨by decide, by decide⟩)
  obtain ⟨q0, q1⟩ := hq
  by_cases hz : q = 0
  · subst hz
    have hr : addI x 0 0 = 0 := by simp [addI, mayB]
    have hr2 : fixI x 0 = 0 := by simp [fixI]
    rw [hr] at HA
    rw [hr2]
    clear hr hr2 hx
    go_enter Tryz.func85, Tryz.ntmps85
    go_wp2_with fail
    refine HA.out.mono ?_
    rintro e w1 ⟨rfl, hg⟩
    have HG := Lib.hid hg
    clear hg
    go_wp2
    go_ret
    exact ⟨rfl, HG.out⟩
  · have hqz : (q == 0) = false := by simp [hz]
    have e1 : IntKind.u64.wrap (q - 1) = q - 1 := IntWalk.u64_in _ (by omega)
    have e2 : Int.tdiv (q - 1) 2 = (q - 1) / 2 := Int.tdiv_eq_ediv_of_nonneg (by omega)
    have hb : 0 ≤ addI x 0 q ∧ addI x 0 q < 2305843009213693952 ∧ (¬ addI x 0 q ≤ (q - 1) / 2 → q ≤ 2305843009213693952) := by
      cases hm : mayB q with
      | false =>
        have : addI x 0 q = 0 := by simp [addI, hm]
        rw [this]
        exact ⟨by omega, by omega, fun h => by omega⟩
      | true =>
        have := addI_bd x 0 q hm
        simp [mayB] at hm
        exact ⟨this.1, by omega, fun _ => hm.2⟩
    obtain ⟨hb0, hb1, hb2⟩ := hb
    have hf : fixI x q = if addI x 0 q ≤ (q - 1) / 2 then addI x 0 q else addI x 0 q - q := by simp [fixI, hz]
    have e3 : IntKind.i64.wrap (addI x 0 q) = addI x 0 q := IntWalk.i64_in _ (by omega)
    by_cases hle : addI x 0 q ≤ (q - 1) / 2
    · rw [hf, if_pos hle]
      have hd : decide (addI x 0 q ≤ (q - 1) / 2) = true := by simpa using hle
      clear hf hle hx hb2
      generalize addI x 0 q = v at *
      go_enter Tryz.func85, Tryz.ntmps85
      go_wp2_with fail
      refine HA.out.mono ?_
      rintro e w1 ⟨rfl, hg⟩
      have HG := Lib.hid hg
      clear hg
      go_wp2
      go_ret
      exact ⟨rfl, HG.out⟩
    · rw [hf, if_neg hle]
      have hq2 := hb2 hle
      have hd : decide (addI x 0 q ≤ (q - 1) / 2) = false := by simpa using hle
      have e4 : IntKind.i64.wrap q = q := IntWalk.i64_in _ (by omega)
      have e5 : IntKind.i64.wrap (addI x 0 q - q) = addI x 0 q - q := IntWalk.i64_in _ (by omega)
      clear hf hle hx hb2
      generalize addI x 0 q = v at *
      go_enter Tryz.func85, Tryz.ntmps85
      go_wp2_with fail
      refine HA.out.mono ?_
      rintro e w1 ⟨rfl, hg⟩
      have HG := Lib.hid hg
      clear hg
      go_wp2
      go_ret
      exact ⟨rfl, HG.out⟩
end Go.Proofs.YtiimippmihkgcaaGreatDoor

namespace Go.Proofs.YtiimippmihkgcaaGreatDoor
open Go Go.RowKit

/-- What a dealer dealt: the dealer, and lists of commitments. -/
def encD : Enc (Int × List (List Int)) where
  size := 2
  pos := by decide
  rep := fun X w cs d => ∃ v, cs = [.int .i64 d.1, v] ∧ I64 d.1 ∧ Sl (encS encU) X w v d.2
  len := fun h => by obtain ⟨v, rfl, _⟩ := h; rfl
  ones := fun h u hu => by
    obtain ⟨v, rfl, _, A, c, rfl, _⟩ := h
    simp at hu
    rcases hu with rfl | rfl <;> rfl
  keep := fun h hg hX => by obtain ⟨v, e, i, h⟩ := h; exact ⟨v, e, i, h.keep hg hX⟩
  more := fun h hX => by obtain ⟨v, e, i, h⟩ := h; exact ⟨v, e, i, h.more hX⟩
  keepc := fun h hg hr => by obtain ⟨v, e, i, h⟩ := h; exact ⟨v, e, i, h.keepc hg hr⟩
theorem Sl.atD {X : Nat → Prop} {w : World} {v : Value} {xs : List (Int × List (List Int))} (h : Sl encD X w v xs) {k : Nat} (hk : k < xs.length) :
    ∃ g o c u, v = .slice (some ⟨g, o, none⟩) xs.length c ∧ g < w.heap.size ∧ X g ∧ w.cell? ⟨g, o + k * 2, none⟩ = some (.int .i64 xs[k].1) ∧ w.cell? ⟨g, o + k * 2 + 1, none⟩ = some u ∧ I64 xs[k].1 ∧ Sl (encS encU) X w u xs[k].2 := by
  obtain ⟨g, o, c, cs, e, hg, hX, ⟨u, rfl, hi, hu⟩, hc⟩ := h.at hk
  exact ⟨g, o, c, u, e, hg, hX, hc 0 _ rfl, hc 1 _ rfl, hi, hu⟩
/-- What is wrong with commitments put together. -/
noncomputable def comsE (p : Par) (deals : List (Int × List (List Int))) : Int :=
  if smallB p && decide (0 ≤ p.T ∧ p.T ≤ 2) && !deals.any (fun d => !((d.2.length : Int) == secretsI p) || d.2.any (shortB p)) && membersB (deals.map (·.1)) then wErr p.Q (deals.map (·.1)) 0 else 1
/-- .. and what they come to. -/
noncomputable def comsL (p : Par) (deals : List (Int × List (List Int))) : List (List Int) :=
  if comsE p deals = 0 then (List.range (secretsI p).toNat).map fun s => (List.range (p.T + 1).toNat).map fun j => comeU p.P (deals.map fun d => (d.2[s]?.getD [])[j]?.getD 0) (wList p.Q (deals.map (·.1)) 0) (timesI p.P []) else []
end Go.Proofs.YtiimippmihkgcaaGreatDoor

namespace Go.Proofs.YtiimippmihkgcaaGreatDoor
open Go.RowKit
def nextS (s : Int) : Int := IntKind.u64.wrap (s + 11400714819323198485)
def mixI (z : Int) : Int :=
  let a := IntKind.u64.wrap (bits .xor .u64 z (z / 1073741824) * 13787848793156543929)
  let b := IntKind.u64.wrap (bits .xor .u64 a (a / 134217728) * 10723151780598845931)
  bits .xor .u64 b (b / 2147483648)

def belowI (x q : Int) : Int := if q = 0 then x else x % q
theorem belowI_U64 (x q : Int) (hx : U64 x) (hq : U64 q) : U64 (belowI x q) := by
  unfold belowI U64 at *
  split
  · exact hx
  · have := emod_bd x q (by omega)
    omega

/-- How many numbers stand above the greatest multiple of q. -/
def tOverI (q : Int) : Int := if q = 0 then 0 else 18446744073709551616 % q

theorem wrap64u (a : Int) : IntKind.u64.wrap a = a % 18446744073709551616 := IntKind.wrap_u64 a
theorem nextS_U64 (s : Int) : U64 (nextS s) := by
  unfold nextS
  rw [wrap64u]
  exact emod_bd _ _ (by decide)
theorem bitsU64 (o : BinOp) (a b : Int) : U64 (bits o .u64 a b) := by
  have h : ∃ x, bits o .u64 a b = IntKind.u64.wrap x := by
    unfold bits
    exact ⟨_, rfl⟩
  obtain ⟨x, h⟩ := h
  rw [h, wrap64u]
  exact emod_bd _ _ (by decide)
theorem mixI_U64 (z : Int) : U64 (mixI z) := by
  unfold mixI
  exact bitsU64 _ _ _
theorem mix_zero : mixI 0 = 0 := by kernel_rfl

/-- Is the number of this state taken, of those below q? -/
def accB (q s : Int) : Bool := decide (tOverI q ≤ bits BinOp.xor IntKind.u64 IntKind.u64.max (mixI s))
theorem notU (x : Int) (hx : U64 x) : bits BinOp.xor IntKind.u64 IntKind.u64.max x = 18446744073709551615 - x := by
  obtain ⟨x0, x1⟩ := hx
  obtain ⟨n, rfl⟩ := Int.eq_ofNat_of_zero_le x0
  have h1 : (BitVec.ofInt 64 (n : Int)).toNat = n := by
    rw [BitVec.ofInt_natCast, BitVec.toNat_ofNat]; exact Nat.mod_eq_of_lt (by omega)
  have h2 : BitVec.ofInt 64 IntKind.u64.max = BitVec.allOnes 64 := by decide
  show IntKind.u64.wrap ((BitVec.ofInt 64 IntKind.u64.max ^^^ BitVec.ofInt 64 (n : Int)).toNat : Int) = _
  rw [h2, BitVec.allOnes_xor, BitVec.toNat_not, h1, IntKind.wrap_u64]
  omega
theorem acc_iff (q s : Int) : accB q s = decide (tOverI q ≤ 18446744073709551615 - mixI s) := by
  unfold accB
  rw [notU _ (mixI_U64 _)]
theorem tOverI_le (q : Int) (h : 0 ≤ q) (h1 : q < 18446744073709551616) : tOverI q ≤ 18446744073709551615 := by
  unfold tOverI
  split
  · decide
  · have := emod_bd 18446744073709551616 q (by omega)
    omega
theorem acc_zero (q : Int) (h : U64 q) : accB q 0 = true := by
  have := tOverI_le q h.1 h.2
  rw [acc_iff, mix_zero]
  simpa using this

theorem dvd_part (M a b c : Int) (h : M ∣ a) (e : a = b + M * c) : M ∣ b := by
  obtain ⟨k, hk⟩ := h
  exact ⟨k - c, by rw [Int.mul_sub]; omega⟩
theorem inv_gen (M s v st k : Int) (hv : v * st = 1 + M * k) (h0 : 0 < s) (h1 : s < M) : ((M - s) * v) % M ≠ 0 := by
  intro hz
  have d := Int.dvd_of_emod_eq_zero hz
  have d2 : M ∣ (M - s) * v * st := Int.dvd_trans d (Int.dvd_mul_right _ _)
  have e : (M - s) * v * st = (M - s) + M * ((M - s) * k) := by
    rw [Int.mul_assoc, hv, Int.mul_add, Int.mul_one, ← Int.mul_assoc, Int.mul_comm (M - s) M, Int.mul_assoc]
  have d3 := dvd_part _ _ _ _ d2 e
  have := Int.le_of_dvd (by omega) d3
  omega
theorem step_gen (M s n v st k a b : Int) (hM : 1 < M) (hv : v * st = 1 + M * k) (hn : n = (s + st) % M) (ha : a = ((M - s) * v) % M) (hb : b = ((M - n) * v) % M) : b = (a - 1) % M := by
  have e : Cg M b (a - 1) := by
    rw [hb, ha, hn]
    refine (Cg.mod _ _).trans ?_
    refine Cg.trans ((((Cg.refl M M).sub (Cg.mod M (s + st))).mul_right v)) ?_
    refine Cg.trans ?_ ((Cg.mod M ((M - s) * v)).symm.sub (Cg.refl M 1))
    refine Cg.of_dvd ⟨-k, ?_⟩
    have h1 : (M - (s + st)) * v = (M - s) * v - v * st := by
      rw [show M - (s + st) = (M - s) - st by omega, Int.sub_mul, Int.mul_comm st v]
    rw [h1, hv, Int.mul_neg]
    omega
  have hb0 : 0 ≤ b ∧ b < M := by rw [hb]; exact emod_bd _ _ (by omega)
  unfold Cg at e
  rwa [Int.emod_eq_of_lt hb0.1 hb0.2] at e
theorem zero_gen (M A B : Int) (hM : 1 < M) (hA : A = 0) (hB : B = (A - 1) % M) : M = B + 1 := by
  subst hA
  have : (0 - 1 : Int) % M = M - 1 := by
    rw [show (0 - 1 : Int) = (M - 1) + M * (-1) by omega, Int.add_mul_emod_self_left, Int.emod_eq_of_lt (by omega) (by omega)]
  omega
theorem toNat_succ (B : Int) (h : 0 ≤ B) (x : Int) (hx : x = B + 1) : x.toNat = B.toNat + 1 := by omega
theorem pred_gen (M A B : Int) (hA0 : 0 ≤ A) (hA1 : A < M) (hA : A ≠ 0) (hB : B = (A - 1) % M) : A = B + 1 := by
  rw [hB, Int.emod_eq_of_lt (by omega) (by omega)]
  omega
/-- How many steps it is from a state to 0, over whatever modulus M, where v is the step's inverse. -/
def kkG (M v s : Int) : Nat := if s = 0 then M.toNat else (((M - s) * v) % M).toNat
theorem kkG_step (M v st k s n : Int) (hM : 1 < M) (hv : v * st = 1 + M * k) (s0 : 0 ≤ s) (s1 : s < M) (hn : n = (s + st) % M) (h : n ≠ 0) : kkG M v s = kkG M v n + 1 := by
  have key := step_gen M s n v st k _ _ hM hv hn rfl rfl
  have b1 := emod_bd ((M - n) * v) M (by omega)
  unfold kkG
  rw [if_neg h]
  by_cases hz : s = 0
  · subst hz
    rw [if_pos rfl]
    exact toNat_succ _ b1.1 _ (zero_gen M _ _ hM (by rw [Int.sub_zero, Int.mul_comm]; exact Int.mul_emod_left v M) key)
  · rw [if_neg hz]
    have b2 := emod_bd ((M - s) * v) M (by omega)
    exact toNat_succ _ b1.1 _ (pred_gen M _ _ b2.1 b2.2 (inv_gen M s v st k hv (by omega) s1) key)
theorem kkG_pos (M v st k s : Int) (hM : 1 < M) (hv : v * st = 1 + M * k) (s0 : 0 ≤ s) (s1 : s < M) : ∃ f, kkG M v s = f + 1 := by
  have h : kkG M v s ≠ 0 := by
    unfold kkG
    by_cases hz : s = 0
    · rw [if_pos hz]; omega
    · rw [if_neg hz]
      have b2 := emod_bd ((M - s) * v) M (by omega)
      have := inv_gen M s v st k hv (by omega) s1
      omega
  exact ⟨kkG M v s - 1, by omega⟩
theorem inv_step : (17428512612931826493 : Int) * 11400714819323198485 = 1 + 18446744073709551616 * 10771413168148108919 := by decide
def kk (s : Int) : Nat := kkG 18446744073709551616 17428512612931826493 s
theorem kk_step (s : Int) (hs : U64 s) (h : nextS s ≠ 0) : kk s = kk (nextS s) + 1 :=
  kkG_step _ _ _ _ _ _ (by decide) inv_step hs.1 hs.2 (wrap64u _) h
theorem kk_pos (s : Int) (hs : U64 s) : ∃ f, kk s = f + 1 := kkG_pos _ _ _ _ _ (by decide) inv_step hs.1 hs.2

/-- The state behind the number that is taken. -/
def findS (q : Int) : Nat → Int → Int
  | 0, s => s
  | f + 1, s => if accB q (nextS s) then nextS s else findS q f (nextS s)
def drawS (q s : Int) : Int := findS q (kk s) s
def drawX (q s : Int) : Int := belowI (mixI (drawS q s)) q
theorem draw_yes (q s : Int) (hs : U64 s) (h : accB q (nextS s) = true) : drawS q s = nextS s := by
  obtain ⟨f, hf⟩ := kk_pos s hs
  simp [drawS, hf, findS, h]
theorem draw_no (q s : Int) (hq : U64 q) (hs : U64 s) (h : accB q (nextS s) = false) : drawS q s = drawS q (nextS s) ∧ kk s = kk (nextS s) + 1 := by
  have hz : nextS s ≠ 0 := by
    intro h0
    rw [h0, acc_zero q hq] at h
    cases h
  have hk := kk_step s hs hz
  exact ⟨by simp [drawS, hk, findS, h], hk⟩
theorem findS_U64 (q : Int) : ∀ (f : Nat) (s : Int), U64 s → U64 (findS q f s)
  | 0, _, h => h
  | f + 1, s, _ => by
    unfold findS
    split
    · exact nextS_U64 s
    · exact findS_U64 q f _ (nextS_U64 s)
theorem drawS_U64 (q s : Int) (h : U64 s) : U64 (drawS q s) := findS_U64 q _ s h
theorem drawX_U64 (q s : Int) (hq : U64 q) : U64 (drawX q s) := belowI_U64 _ _ (mixI_U64 _) hq
end Go.Proofs.YtiimippmihkgcaaGreatDoor

namespace Go.Proofs.YtiimippmihkgcaaGreatDoor
open Go.RowKit
set_option maxHeartbeats 400000 in
theorem number_any (b : Nat) (s : Int) (w : World) (hs : U64 s) (hc : w.cell? ⟨b, 0, none⟩ = some (.int .u64 s)) (hf : w.frozen? ⟨b, 0, none⟩ = false) :
    Calls Tryz.prog 90 #[.pointer (some ⟨b, 0, none⟩)] w fun e w' => e = .returned (.int .u64 (mixI (nextS s))) ∧ ∃ n, w' = (w.setCell ⟨b, 0, none⟩ (.int .u64 (nextS s))).drewN n := by
  obtain ⟨s0, s1⟩ := hs
  go_enter Tryz.func90, Tryz.ntmps90
  go_wp2_with fail
  go_ret
  exact ⟨rfl, 0, rfl⟩

theorem below_any (x q : Int) (w : World) (hx : U64 x) (hq : U64 q) :
    Calls Tryz.prog 89 #[.int .u64 x, .int .u64 q] w fun e w' => e = .returned (.int .u64 (belowI x q)) ∧ ∃ n, w' = w.drewN n := by
  obtain ⟨x0, x1⟩ := hx
  obtain ⟨q0, q1⟩ := hq
  by_cases h : q = 0
  · subst h
    have hr : belowI x 0 = x := by simp [belowI]
    rw [hr]
    clear hr
    go_enter Tryz.func89, Tryz.ntmps89
    go_wp2
    go_ret
    exact ⟨rfl, 0, rfl⟩
  · have hr : belowI x q = x % q := by simp [belowI, h]
    have h' : (q == 0) = false := by simpa using h
    have hp : 0 < q := by omega
    rw [hr]
    clear hr h
    go_enter Tryz.func89, Tryz.ntmps89
    go_wp2
    go_ret
    exact ⟨rfl, 0, rfl⟩
theorem rem_over (q : Int) (_h : 0 < q) : rem128 (1 % q) 0 q = 18446744073709551616 % q := by
  unfold rem128
  rw [Int.add_zero]
  exact ((Cg.mod q 1).mul_right _).trans (Cg.of_eq (Int.one_mul _))
set_option maxHeartbeats 400000 in
theorem over_any (q : Int) (w : World) (hq : U64 q) :
    Calls Tryz.prog 91 #[.int .u64 q] w fun e w' => e = .returned (.int .u64 (tOverI q)) ∧ ∃ n, w' = w.drewN n := by
  obtain ⟨q0, q1⟩ := hq
  by_cases h : q = 0
  · subst h
    have hr : tOverI 0 = 0 := by simp [tOverI]
    rw [hr]
    clear hr
    go_enter Tryz.func91, Tryz.ntmps91
    go_wp2
    go_ret
    exact ⟨rfl, 0, rfl⟩
  · have h' : (q == 0) = false := by simpa using h
    have hp : 0 < q := by omega
    have hr : tOverI q = rem128 (1 % q) 0 q := by rw [rem_over q hp]; simp [tOverI, h]
    rw [hr]
    obtain ⟨e0, e1⟩ := emod_bd 1 q hp
    clear hr h
    go_enter Tryz.func91, Tryz.ntmps91
    go_wp2_with fail
    refine (div64_int _ _ _ _ e0 (by decide) (by decide) q1 e1).mono ?_
    rintro e w' ⟨rfl, n, rfl⟩
    go_wp2
    go_ret
    exact ⟨rfl, _, rfl⟩
end Go.Proofs.YtiimippmihkgcaaGreatDoor

namespace Go.Proofs.YtiimippmihkgcaaGreatDoor
open Go.RowKit

/-- What a tape holds: the numbers told ahead, the state, how many draws were made. -/
structure TS where
  ahead : List Int
  s : Int
  d : Int
def TS.ok (T : TS) : Prop := (∀ x ∈ T.ahead, U64 x) ∧ U64 T.s ∧ 0 ≤ T.d ∧ T.d < 4611686018427387904
def TS.next (q : Int) (T : TS) : TS := match T.ahead with
  | _ :: r => ⟨r, T.s, T.d + 1⟩
  | [] => ⟨[], drawS q T.s, T.d + 1⟩
def TS.val (q : Int) (T : TS) : Int := match T.ahead with
  | x :: _ => belowI x q
  | [] => drawX q T.s
/-- The tape that lies in block b; what is told ahead, if anything is left, lies in block ga. -/
def TapeIs (w : World) (b ga : Nat) (T : TS) : Prop :=
  ∃ A c, Bk w b 82 #[.int .u64 T.s, .slice A T.ahead.length c, .int .i64 T.d] ∧ T.ahead.length ≤ c ∧ c ≤ 9223372036854775807 ∧
    (T.ahead ≠ [] → ga ≠ b ∧ ga < w.heap.size ∧ ∃ o, A = some ⟨ga, o, none⟩ ∧ ∀ j u, (nums T.ahead)[j]? = some u → w.cell? ⟨ga, o + j, none⟩ = some u)

set_option maxHeartbeats 400000 in
theorem next_own (b : Nat) (A : Option Addr) (c : Nat) (s d q : Int) (w : World) (hs : U64 s) (hq : U64 q) (hd0 : 0 ≤ d) (hd : d < 4611686018427387904)
    (hb : Bk w b 82 #[.int .u64 s, .slice A 0 c, .int .i64 d]) :
    Calls Tryz.prog 41 #[.pointer (some ⟨b, 0, none⟩), .int .u64 q] w fun e w' => e = .returned (.int .u64 (drawX q s)) ∧ Bk w' b 82 #[.int .u64 (drawS q s), .slice A 0 c, .int .i64 (d + 1)] ∧ w.grownBy w' (some b) := by
  have c0 : w.cell? ⟨b, 0, none⟩ = some (.int .u64 s) := hb.cell 0
  have c1 : w.cell? ⟨b, 1, none⟩ = some (.slice A 0 c) := hb.cell 1
  have c2 : w.cell? ⟨b, 2, none⟩ = some (.int .i64 d) := hb.cell 2
  have f0 : w.frozen? ⟨b, 0, none⟩ = false := hb.free 0
  have f2 : w.frozen? ⟨b, 2, none⟩ = false := hb.free 2
  have HB := Lib.hid hb
  have HS := Lib.hid hs
  have HQ := Lib.hid hq
  clear hb hs hq
  go_enter Tryz.func41, Tryz.ntmps41
  go_wp2_with fail
  have hb1 : Bk (w.setCell ⟨b, 2, none⟩ (.int .i64 (d + 1))) b 82 #[.int .u64 s, .slice A 0 c, .int .i64 (d + 1)] := (HB.out.set 2 _).of_eq rfl
  have hg1 : w.grownBy (w.setCell ⟨b, 2, none⟩ (.int .i64 (d + 1))) (some b) := grownBy_set (World.grownBy.refl w _) 2 _
  clear c0 c1 c2 f0 f2
  generalize w.setCell ⟨b, 2, none⟩ (.int .i64 (d + 1)) = w1 at *
  go_loopg [6] (kk s) (fun g s6 wx => ∃ s' : Int, kk s' = g ∧ Hid (U64 s') ∧ Hid (drawS q s' = drawS q s) ∧ Hid (Bk wx b 82 #[.int .u64 s', .slice A 0 c, .int .i64 (d + 1)] ∧ w.grownBy wx (some b)))
  case atStart => exact ⟨s, rfl, HS, Lib.hid rfl, Lib.hid ⟨hb1, hg1⟩⟩
  case round =>
    clear hb1 hg1
    obtain ⟨s', hk, hs', HD, HX⟩ := hrel
    have d0 : wr.cell? ⟨b, 0, none⟩ = some (.int .u64 s') := HX.out.1.cell 0
    have g0 : wr.frozen? ⟨b, 0, none⟩ = false := HX.out.1.free 0
    have HN := Lib.hid (number_any b s' wr hs'.out d0 g0)
    have HL := Lib.hid (fun w => below_any (mixI (nextS s')) q w (mixI_U64 _) HQ.out)
    have HO := Lib.hid (fun w => over_any q w HQ.out)
    have HX2 : Hid (Bk (wr.setCell ⟨b, 0, none⟩ (.int .u64 (nextS s'))) b 82 #[.int .u64 (nextS s'), .slice A 0 c, .int .i64 (d + 1)] ∧ w.grownBy (wr.setCell ⟨b, 0, none⟩ (.int .u64 (nextS s'))) (some b)) := Lib.hid ⟨(HX.out.1.set 0 _).of_eq rfl, grownBy_set HX.out.2 0 _⟩
    have hkk := Lib.hid hk
    clear d0 g0 hk
    go_wp2_with fail
    refine HN.out.mono ?_
    rintro e w' ⟨rfl, n1, rfl⟩
    go_wp2_with fail
    refine (HO.out _).mono ?_
    rintro e w' ⟨rfl, n2, rfl⟩
    cases hacc : accB q (nextS s') with
    | true =>
      have hA : decide (tOverI q ≤ bits BinOp.xor IntKind.u64 IntKind.u64.max (mixI (nextS s'))) = true := hacc
      have HE := Lib.hid (draw_yes q s' hs'.out hacc)
      clear hacc
      go_wp2_with fail
      refine (HL.out _).mono ?_
      rintro e w' ⟨rfl, n3, rfl⟩
      go_wp2
      go_ret
      have e1 : drawS q s = nextS s' := HD.out.symm.trans HE.out
      refine ⟨?_, ?_, ?_⟩
      · unfold drawX
        rw [e1]
        rfl
      · rw [e1]
        exact HX2.out.1
      · exact grownBy_drewN HX2.out.2 _
    | false =>
      have hA : decide (tOverI q ≤ bits BinOp.xor IntKind.u64 IntKind.u64.max (mixI (nextS s'))) = false := hacc
      obtain ⟨e1, e2⟩ := draw_no q s' HQ.out hs'.out hacc
      have HE := Lib.hid e1
      have HK := Lib.hid e2
      clear hacc e1 e2
      go_wp2
      go_roundg (kk (nextS s'))
      case measure => rw [← hkk.out, HK.out]; omega
      case rel => exact ⟨nextS s', rfl, Lib.hid (nextS_U64 _), Lib.hid (HE.out.symm.trans HD.out), Lib.hid ⟨HX2.out.1, grownBy_drewN HX2.out.2 _⟩⟩
end Go.Proofs.YtiimippmihkgcaaGreatDoor
