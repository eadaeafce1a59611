/- pedersen.Matrix, walked. -/
import Derived.Test.YtmbbahlenanpfaaPedF
namespace Go.Proofs.Ytmbbahlenanpfaa
open Go Go.RowKit Go.Shelf

attribute [local go_sem] Oper.semAt_some
def matI (p : Par) (f r : List (List (List Int))) : List (List (List Int)) := (zipS f r).map fun x => comsI p x.1 x.2
abbrev small2 (m : List (List Int)) : Prop := m.length ≤ 100000 ∧ ∀ c ∈ m, c.length ≤ 100000
theorem map_lists_mat (p : Par) {X : Nat → Prop} {w₀ : World} {G : List (List Int) → Prop} {ys : List (SS (encS encU) X w₀ G)} {z : List (List (List Int) × List (List Int))} (h : ys.map SS.lists = z) : ys.map (fun y => comsI p y.lists.1 y.lists.2) = z.map (fun x => comsI p x.1 x.2) := by
  rw [← h, List.map_map]
  rfl
set_option maxRecDepth 100000 in
set_option maxHeartbeats 4000000 in
theorem matrix_in (n : Nat) (hn : 6 ≤ n) (p : Par) (vf vr : Value) (f r : List (List (List Int))) (X : Nat → Prop) (w : World) (hp : p.ok) (hf : Sl (encS (encS encU)) X w vf f) (hr : Sl (encS (encS encU)) X w vr r) (hb1 : f.length ≤ 100000) (hb2 : r.length ≤ 100000) (hb3 : ∀ c ∈ f, small2 c) (hb4 : ∀ c ∈ r, small2 c) :
    CallsIn Fence.wide n Try.prog 15 #[p.v, vf, vr] w (Gives (encS (encS encU)) (fun g => w.heap.size ≤ g) w (matI p f r)) := by
  have h1 : 1 ≤ n := by omega
  have HF := Lib.hid hf
  have HR := Lib.hid hr
  have HP := Lib.hid hp
  obtain ⟨A1, c1, rfl, _, _⟩ := hf.form
  obtain ⟨A2, c2, rfl, _, _⟩ := hr.form
  clear hf hr hp
  have HZL : Hid ((zipS f r).length ≤ 100000) := Lib.hid (by simp [zipS]; omega)
  refine callsIn_of_wp_marks Try.func15 rfl trivial ?_ rfl
  simp only [Try.ntmps15, List.size_toArray, List.length_cons, List.length_nil, Nat.reduceAdd, Nat.reduceSub, Array.replicate_succ, Array.replicate_zero, List.push_toArray, List.append_toArray, List.nil_append, List.cons_append]
  gi_wp2_with (refine ⟨trivial, ?_⟩; refine (callsIn_wide.2 (pairsM_any _ _ _ _ _ _ _)).mono ?_; rintro e w' ⟨rfl, rfl⟩)
  have hs1 : (w.alloc (.cells p.cells 25)).heap.size = w.heap.size + 1 := by simp
  have hs2 : ((w.alloc (.cells p.cells 25)).alloc (.cells #[.slice none 0 0] 29)).heap.size = w.heap.size + 1 + 1 := by simp
  have hs3 : (((w.alloc (.cells p.cells 25)).alloc (.cells #[.slice none 0 0] 29)).alloc (.cells #[.slice A1 f.length c1] 29)).heap.size = w.heap.size + 1 + 1 + 1 := by simp
  have bP : Bk _ w.heap.size 25 p.cells := (((Bk.new w 25 p.cells).alloc (.cells #[.slice none 0 0] 29)).alloc (.cells #[.slice A1 f.length c1] 29)).alloc (.cells #[.slice A2 r.length c2] 29)
  have bO := ((Boxed.new (w.alloc (.cells p.cells 25)) 29 (.slice none 0 0)).alloc (.cells #[.slice A1 f.length c1] 29)).alloc (.cells #[.slice A2 r.length c2] 29)
  have bA := (Boxed.new ((w.alloc (.cells p.cells 25)).alloc (.cells #[.slice none 0 0] 29)) 29 (.slice A1 f.length c1)).alloc (.cells #[.slice A2 r.length c2] 29)
  have bB := Boxed.new (((w.alloc (.cells p.cells 25)).alloc (.cells #[.slice none 0 0] 29)).alloc (.cells #[.slice A1 f.length c1] 29)) 29 (.slice A2 r.length c2)
  rw [hs1] at bO
  rw [hs2] at bA
  rw [hs3] at bB
  have hB0 : Below w.heap.size w ((((w.alloc (.cells p.cells 25)).alloc (.cells #[.slice none 0 0] 29)).alloc (.cells #[.slice A1 f.length c1] 29)).alloc (.cells #[.slice A2 r.length c2] 29)) := below_grown (((World.grownBy_alloc w _ none).trans (World.grownBy_alloc _ _ none)).trans ((World.grownBy_alloc _ _ none).trans (World.grownBy_alloc _ _ none)))
  have hsz : ((((w.alloc (.cells p.cells 25)).alloc (.cells #[.slice none 0 0] 29)).alloc (.cells #[.slice A1 f.length c1] 29)).alloc (.cells #[.slice A2 r.length c2] 29)).heap.size = w.heap.size + 4 := by simp
  obtain ⟨W0, hW0⟩ : ∃ W0, (((w.alloc (.cells p.cells 25)).alloc (.cells #[.slice none 0 0] 29)).alloc (.cells #[.slice A1 f.length c1] 29)).alloc (.cells #[.slice A2 r.length c2] 29) = W0 := ⟨_, rfl⟩
  rw [hW0] at bP bO bA bB hB0 hsz ⊢
  clear hW0 hs1 hs2 hs3
  have HPG : Hid (∀ c ∈ f, small2 c) := Lib.hid hb3
  refine wpIn_rangeFunc_ownH rfl h1 (gf := 41) (lb := #[.pointer (some ⟨w.heap.size + 1 + 1, 0, none⟩), .pointer (some ⟨w.heap.size + 1 + 1 + 1, 0, none⟩)]) rfl trivial (enters_of Try.func41 (by kernel_rfl) rfl)
    (pairsM_stops (n - 1) (by omega) (w.heap.size + 1 + 1) (w.heap.size + 1 + 1 + 1) _ _ f r X w W0 small2 ⟨by simp, by simp⟩ hb3 hb4 hB0 bA bB HF.out HR.out) KpAB.trans (KpAB.b (by omega) (by omega) (by omega)) (Below.refl _ _) (fun _ => rfl)
    (fun pre W => (∃ v, Boxed W (w.heap.size + 1) 29 v ∧ Acc (encS (encS encU)) (w.heap.size + 4) 28 (fun g => w.heap.size + 4 ≤ g) W v (pre.map fun x => comsI p x.lists.1 x.lists.2)) ∧ Bk W w.heap.size 25 p.cells ∧ Below w.heap.size w W ∧ Boxed W (w.heap.size + 1 + 1) 29 (.slice A1 f.length c1) ∧ Boxed W (w.heap.size + 1 + 1 + 1) 29 (.slice A2 r.length c2))
    (fun _ _ _ => False)
    (fun pre X Y row hs hg hrow => by
      obtain ⟨⟨v, hb, ha⟩, hk, hB, hb2, hb3⟩ := hs
      have hr' := fun r e => (hrow r e).2
      exact ⟨⟨v, hb.kept hg (boxNe hb hr'), ha.keepc hg hr'⟩, hk.grown hg (cell_ne (hk.cell 0) hr'), hB.grown hg hB.size (fun k e => by have := (hrow k e).1; omega), hb2.kept hg (boxNe hb2 hr'), hb3.kept hg (boxNe hb3 hr')⟩)
    (fun _ _ _ _ _ hs _ _ => hs)
    ⟨⟨_, bO, Acc.nil _ _ _ _ _⟩, bP, hB0, bA, bB⟩
    (fun x a' _ => a' = { tmps := #[p.v, .slice A1 f.length c1, .slice A2 r.length c2, .pointer (some ⟨w.heap.size, 0, none⟩), undef, undef, .slice none 0 0, .pointer (some ⟨w.heap.size + 1, 0, none⟩), x.1.1.1, x.1.2.1, .slice A1 f.length c1, .slice A2 r.length c2, .func (.func 41) #[] #[.pointer (some ⟨w.heap.size + 1 + 1, 0, none⟩), .pointer (some ⟨w.heap.size + 1 + 1 + 1, 0, none⟩)], x.1.1.1, x.1.2.1, undef, undef, undef, undef, undef, undef, undef, undef], defers := [] })
    (fun _ _ _ _ _ _ hs _ _ => hs)
    ?assign ?body ?done ?stop
  case assign =>
    rintro l pre x W K hi hK
    gi_wp2
    exact hK _ _ (KeepsFrom.refl _ _) (KpAB.refl _ _ _ _) hi rfl
  case body =>
    rintro lq pre ⟨⟨⟨v1, l1⟩, ⟨v2, l2⟩⟩, ⟨hv1, hg1⟩, ⟨hv2, hg2⟩⟩ a' W hl _ ⟨⟨v, hbo, hao⟩, hbp, hbl, hba, hbb⟩ rfl hlt
    have k1 : Sl (encS encU) X w v1 l1 := hv1
    have k2 : Sl (encS encU) X w v2 l2 := hv2
    have k3 : l1.length ≤ 100000 ∧ ∀ c ∈ l1, c.length ≤ 100000 := hg1
    have k4 : l2.length ≤ 100000 ∧ ∀ c ∈ l2, c.length ≤ 100000 := hg2
    have hNW := hbl.size
    have HCOM : Hid (∀ w', W.grownBy w' none → Calls Try.prog 12 #[p.v, v1, v2] w' (Gives (encS encU) (fun g => w'.heap.size ≤ g) w' (comsI p l1 l2))) := Lib.hid (fun w' hw => callsIn_wide.1 (coms_in 6 (Nat.le_refl _) p v1 v2 l1 l2 X w' HP.out (k1.kept ((grown_of_below hbl).trans hw)) (k2.kept ((grown_of_below hbl).trans hw)) k3.1 k4.1 k3.2 k4.2))
    obtain ⟨D1, d1, rfl, _, _⟩ := k1.form
    obtain ⟨D2, d2, rfl, _, _⟩ := k2.form
    have HPL : Hid (pre.length < 100000) := Lib.hid (Nat.lt_of_lt_of_le hlt HZL.out)
    obtain ⟨A5, c5, e5, _, _⟩ := hao.sl.form
    rw [List.length_map] at e5
    subst e5
    have HAO := Lib.hid hao
    have HDR : Hid (W.grownBy W.drew none) := Lib.hid (grown_drewN' W 1)
    have HBO := Lib.hid hbo
    have hltO : w.heap.size + 1 < W.heap.size := hbo.lt
    have HS0 : Hid (w.heap.size + 4 ≤ W.heap.size) := Lib.hid (by have := hbb.lt; omega)
    have hpr := hbp.prule
    have cO := hbo.cell
    have HLB : Hid (((pre.map fun x : SS (encS encU) X w small2 => comsI p x.lists.1 x.lists.2).length + 1) * 24 ≤ 140737488355328) := Lib.hid (by rw [List.length_map]; have := HPL.out; omega)
    have FIN : ∀ (w3 w4 : World) (A4 : Option Addr) (n4 c4 : Nat), W.grownBy w3 none → w3.grownBy w4 (Value.slice A5 pre.length c5).ownBlock → Acc (encS (encS encU)) (w.heap.size + 4) 28 (fun g => w.heap.size + 4 ≤ g) w3 (.slice A5 pre.length c5) (pre.map fun x : SS (encS encU) X w small2 => comsI p x.lists.1 x.lists.2) → Acc (encS (encS encU)) (w.heap.size + 4) 28 (fun g => w.heap.size + 4 ≤ g) w4 (.slice A4 n4 c4) ((pre.map fun x : SS (encS encU) X w small2 => comsI p x.lists.1 x.lists.2) ++ [comsI p l1 l2]) → Boxed w4 (w.heap.size + 1) 29 (.slice A5 pre.length c5) → (fun w5 : World => KeepsFrom W0.heap.size W w5 ∧ KpAB w.heap.size (w.heap.size + 1 + 1) (w.heap.size + 1 + 1 + 1) W w5 ∧ (∃ u, Boxed w5 (w.heap.size + 1) 29 u ∧ Acc (encS (encS encU)) (w.heap.size + 4) 28 (fun g => w.heap.size + 4 ≤ g) w5 u ((pre ++ [(⟨((.slice D1 l1.length d1, l1), (.slice D2 l2.length d2, l2)), ⟨hv1, hg1⟩, ⟨hv2, hg2⟩⟩ : SS (encS encU) X w small2)]).map fun x => comsI p x.lists.1 x.lists.2)) ∧ Bk w5 w.heap.size 25 p.cells ∧ Below w.heap.size w w5 ∧ Boxed w5 (w.heap.size + 1 + 1) 29 (.slice A1 f.length c1) ∧ Boxed w5 (w.heap.size + 1 + 1 + 1) 29 (.slice A2 r.length c2)) (w4.setCell ⟨w.heap.size + 1, 0, none⟩ (.slice A4 n4 c4)) := by
      intro w3 w4 A4 n4 c4 hG3 hG4 hA3 hA4 hB4
      have hN2 : ∀ k, k < w.heap.size + 4 → some k ≠ (Value.slice A5 pre.length c5).ownBlock := fun k hk e => by have := (hA3.lt k e.symm).1; omega
      have hN3 : ∀ k, (Value.slice A5 pre.length c5).ownBlock = some k → w.heap.size + 4 ≤ k := fun k e => (hA3.lt k e).1
      have hK5 : KeepsOthers W (w4.setCell ⟨w.heap.size + 1, 0, none⟩ (.slice A4 n4 c4)) := ((keeps_none hG3).trans (hA3.keeps hG4)).trans (KeepsOthers.setCell _ _ _)
      have b1 := ((hba.kept hG3 (by simp)).kept hG4 (hN2 _ (by omega))).other (B' := w.heap.size + 1) (by omega) (.slice A4 n4 c4)
      have b2 := ((hbb.kept hG3 (by simp)).kept hG4 (hN2 _ (by omega))).other (B' := w.heap.size + 1) (by omega) (.slice A4 n4 c4)
      have hS3 : W.heap.size ≤ w3.heap.size := hG3.size
      refine ⟨hK5.from _, ⟨(((Below.refl _ W).grown hG3 (by omega) (by simp)).grown hG4 (by omega) (fun k e => by have := hN3 k e; omega)).setCell (p := ⟨w.heap.size + 1, 0, none⟩) (by simp) _, Eq.trans b1 (Eq.symm hba), Eq.trans b2 (Eq.symm hbb)⟩, ⟨_, hB4.set _, ?_⟩, ?_, ((hbl.grown hG3 (by omega) (by simp)).grown hG4 (by omega) (fun k e => by have := hN3 k e; omega)).setCell (p := ⟨w.heap.size + 1, 0, none⟩) (by simp) _, b1, b2⟩
      · rw [List.map_append]
        exact hA4.keep (grownBy_setCell' w4 (w.heap.size + 1) _) (fun g hg e => by injection e with e; omega)
      · exact ((hbp.grown hG3 (by simp)).grown hG4 (hN2 _ (by omega))).grown (grownBy_setCell' w4 (w.heap.size + 1) _) (fun e => by injection e with e; omega)
    clear k1 k2 k3 k4 hlt
    dsimp only
    gi_wp2
    refine wpIn_round_any (l0 := lq) (R := fun _ w5 => KeepsFrom W0.heap.size W w5 ∧ KpAB w.heap.size (w.heap.size + 1 + 1) (w.heap.size + 1 + 1 + 1) W w5 ∧ (∃ u, Boxed w5 (w.heap.size + 1) 29 u ∧ Acc (encS (encS encU)) (w.heap.size + 4) 28 (fun g => w.heap.size + 4 ≤ g) w5 u ((pre ++ [(⟨((.slice D1 l1.length d1, l1), (.slice D2 l2.length d2, l2)), ⟨hv1, hg1⟩, ⟨hv2, hg2⟩⟩ : SS (encS encU) X w small2)]).map fun x => comsI p x.lists.1 x.lists.2)) ∧ Bk w5 w.heap.size 25 p.cells ∧ Below w.heap.size w w5 ∧ Boxed w5 (w.heap.size + 1 + 1) 29 (.slice A1 f.length c1) ∧ Boxed w5 (w.heap.size + 1 + 1 + 1) 29 (.slice A2 r.length c2)) (by kernel_rfl) (by kernel_rfl) (fun a w h => h) ?_
    refine wpAny_take (i := 2) (oi := ({ dst := some 17, op := Op.move (Operand.tmp 8), type := 28, pos := "pedersen.go:80", after := #[], guard := none } : Oper)) (v := ?vq1) rfl (by kernel_rfl) (by kernel_rfl) (by kernel_rfl) (fun _ _ _ h => h) (Or.inl ⟨by rfl, ?hq1⟩) ?rq1
    case hq1 => (intro w; go_simp; first | done | with_reducible rfl)
    try simp only [Act.put, List.setIfInBounds_toArray, List.set_cons_zero, List.set_cons_succ]
    refine wpAny_take (i := 3) (oi := ({ dst := some 18, op := Op.move (Operand.tmp 9), type := 28, pos := "pedersen.go:80", after := #[], guard := none } : Oper)) (v := ?vq2) rfl (by kernel_rfl) (by kernel_rfl) (by kernel_rfl) (fun _ _ _ h => h) (Or.inl ⟨by rfl, ?hq2⟩) ?rq2
    case hq2 => (intro w; go_simp; first | done | with_reducible rfl)
    try simp only [Act.put, List.setIfInBounds_toArray, List.set_cons_zero, List.set_cons_succ]
    refine wpAny_ready (rs := [0, 1]) (by kernel_rfl) (by simp) ?_
    refine AllReady.cons (o := ({ dst := some 15, op := Op.load 29 (Operand.tmp 7), type := 29, pos := "pedersen.go:80", after := #[], guard := none } : Oper)) rfl (fun K hK => ?_) ?_
    · skip
      go_simp
      refine hK _ _ ?_
      clear hK K
      try simp only [Act.put, List.setIfInBounds_toArray, List.set_cons_zero, List.set_cons_succ]
      refine wpAny_ready (rs := [1]) (by kernel_rfl) (by simp) ?_
      refine AllReady.cons (o := ({ dst := some 16, op := Op.load 25 (Operand.tmp 3), type := 25, pos := "pedersen.go:80", after := #[], guard := none } : Oper)) rfl (fun K hK => ?_) AllReady.nil
      go_simp
      refine hK _ _ ?_
      clear hK K
      try simp only [Act.put, List.setIfInBounds_toArray, List.set_cons_zero, List.set_cons_succ]
      refine wpAny_ready (rs := [4]) (by kernel_rfl) (by simp) ?_
      refine AllReady.cons (o := ({ dst := some 19, op := Op.call { callee := Callee.value (Operand.func 12), args := #[Operand.tmp 16, Operand.tmp 17, Operand.tmp 18], argTypes := #[25, 28, 28] }, type := 28, pos := "pedersen.go:80", after := #[{ on := 1, ground := Ground.data }, { on := 2, ground := Ground.data }, { on := 3, ground := Ground.data }], guard := none } : Oper)) rfl (fun K hK => ?_) AllReady.nil
      go_simp
      (go_at_call 12; (with_reducible refine (HCOM.out _ HDR.out).mono ?_); rintro e w3 ⟨v3, rfl, hs3, hg3⟩)
      obtain ⟨A6, c6, e6, _, _⟩ := hs3.form
      generalize (comsI p l1 l2).length = n6 at e6
      subst e6
      have HG3 : Hid (W.grownBy w3 none) := Lib.hid ((grown_drewN' W 1).trans hg3)
      have HA3 := Lib.hid (HAO.out.kept HG3.out)
      have HB3 := Lib.hid (HBO.out.kept HG3.out (by simp))
      have HSZ : Hid (w.heap.size + 4 ≤ w3.heap.size) := Lib.hid (Nat.le_trans HS0.out HG3.out.size)
      have HNX : Hid (∀ g, w3.heap.size ≤ g → w.heap.size + 4 ≤ g) := Lib.hid (fun g hg => Nat.le_trans HSZ.out hg)
      have HNE : Hid (some (w.heap.size + 1) ≠ (Value.slice A5 pre.length c5).ownBlock) := Lib.hid (fun e => by have := (HA3.out.lt _ e.symm).1; omega)
      have HU : Hid (Sl (encS encU) (fun g => w.heap.size + 4 ≤ g ∧ some g ≠ (Value.slice A5 pre.length c5).ownBlock) w3 (.slice A6 n6 c6) (comsI p l1 l2)) := Lib.hid (hs3.more (fun g _ hg => ⟨Nat.le_trans HS0.out hg, fun e => by have h1 := (HAO.out.lt g e.symm).2; have h2 : W.heap.size ≤ g := hg; omega⟩))
      have hc3 := HB3.out.cell
      have hc3a := (HB3.out.alloc (.cells #[.slice A6 n6 c6] 28)).cell
      clear hg3 hs3
      dsimp only
      refine hK _ _ ?_
      clear hK K
      try simp only [Act.put, List.setIfInBounds_toArray, List.set_cons_zero, List.set_cons_succ]
      refine wpAny_ready (rs := [5]) (by kernel_rfl) (by simp) ?_
      refine AllReady.cons (o := ({ dst := some 20, op := Op.buildSlice 29 1 #[(0, Operand.tmp 19)], type := 29, pos := "pedersen.go:80", after := #[{ on := 4, ground := Ground.data }], guard := none } : Oper)) rfl (fun K hK => ?_) AllReady.nil
      go_simp
      refine hK _ _ ?_
      clear hK K
      try simp only [Act.put, List.setIfInBounds_toArray, List.set_cons_zero, List.set_cons_succ]
      refine wpAny_ready (rs := [6]) (by kernel_rfl) (by simp) ?_
      refine AllReady.cons (o := ({ dst := some 21, op := Op.call { callee := Callee.builtin Builtin.append, args := #[Operand.tmp 15, Operand.tmp 20], argTypes := #[29, 29] }, type := 29, pos := "pedersen.go:80", after := #[{ on := 0, ground := Ground.data }, { on := 5, ground := Ground.data }, { on := 4, ground := Ground.chain }], guard := none } : Oper)) rfl (fun K hK => ?_) AllReady.nil
      refine step_push rfl (.tmp 15) (.tmp 20) rfl (E := encS (encS encU)) (y := comsI p l1 l2) el_rows HA3.out rfl rfl ⟨_, rfl, HU.out⟩ HLB.out HSZ.out HNX.out ?_
      intro v4 w4 hacc4 hg4 _
      obtain ⟨A4, c4, e4, _, _⟩ := hacc4.sl.form
      generalize (List.map (fun x : SS (encS encU) X w small2 => comsI p x.lists.1 x.lists.2) pre ++ [comsI p l1 l2]).length = n4 at e4
      subst e4
      have HA4 := Lib.hid hacc4
      have HG4 := Lib.hid hg4
      have hB4 := HB3.out.kept HG4.out HNE.out
      have cB4 := hB4.cell
      have fB4 := hB4.frozen
      have HB4 := Lib.hid hB4
      clear hacc4 hg4 hB4
      refine hK _ _ ?_
      clear hK K
      try simp only [Act.put, List.setIfInBounds_toArray, List.set_cons_zero, List.set_cons_succ]
      refine wpAny_ready (rs := [7]) (by kernel_rfl) (by simp) ?_
      refine AllReady.cons (o := ({ dst := none, op := Op.store 29 (Operand.tmp 7) (Operand.tmp 21), type := 0, pos := "pedersen.go:80", after := #[{ on := 6, ground := Ground.data }, { on := 6, ground := Ground.chain }, { on := 0, ground := Ground.phase }, { on := 1, ground := Ground.phase }, { on := 2, ground := Ground.phase }, { on := 3, ground := Ground.phase }, { on := 4, ground := Ground.phase }, { on := 5, ground := Ground.phase }, { on := 6, ground := Ground.phase }], guard := none } : Oper)) rfl (fun K hK => ?_) AllReady.nil
      go_simp
      refine hK _ _ ?_
      clear hK K
      try simp only [Act.put, List.setIfInBounds_toArray, List.set_cons_zero, List.set_cons_succ]
      refine wpAny_done (by kernel_rfl) ?_ _
      exact ⟨rfl, FIN w3 w4 A4 n4 c4 HG3.out HG4.out HA3.out HA4.out HB4.out⟩
    refine AllReady.cons (o := ({ dst := some 16, op := Op.load 25 (Operand.tmp 3), type := 25, pos := "pedersen.go:80", after := #[], guard := none } : Oper)) rfl (fun K hK => ?_) AllReady.nil
    go_simp
    refine hK _ _ ?_
    clear hK K
    try simp only [Act.put, List.setIfInBounds_toArray, List.set_cons_zero, List.set_cons_succ]
    refine wpAny_ready (rs := [0, 4]) (by kernel_rfl) (by simp) ?_
    refine AllReady.cons (o := ({ dst := some 15, op := Op.load 29 (Operand.tmp 7), type := 29, pos := "pedersen.go:80", after := #[], guard := none } : Oper)) rfl (fun K hK => ?_) ?_
    · skip
      go_simp
      refine hK _ _ ?_
      clear hK K
      try simp only [Act.put, List.setIfInBounds_toArray, List.set_cons_zero, List.set_cons_succ]
      refine wpAny_ready (rs := [4]) (by kernel_rfl) (by simp) ?_
      refine AllReady.cons (o := ({ dst := some 19, op := Op.call { callee := Callee.value (Operand.func 12), args := #[Operand.tmp 16, Operand.tmp 17, Operand.tmp 18], argTypes := #[25, 28, 28] }, type := 28, pos := "pedersen.go:80", after := #[{ on := 1, ground := Ground.data }, { on := 2, ground := Ground.data }, { on := 3, ground := Ground.data }], guard := none } : Oper)) rfl (fun K hK => ?_) AllReady.nil
      go_simp
      (go_at_call 12; (with_reducible refine (HCOM.out _ HDR.out).mono ?_); rintro e w3 ⟨v3, rfl, hs3, hg3⟩)
      obtain ⟨A6, c6, e6, _, _⟩ := hs3.form
      generalize (comsI p l1 l2).length = n6 at e6
      subst e6
      have HG3 : Hid (W.grownBy w3 none) := Lib.hid ((grown_drewN' W 1).trans hg3)
      have HA3 := Lib.hid (HAO.out.kept HG3.out)
      have HB3 := Lib.hid (HBO.out.kept HG3.out (by simp))
      have HSZ : Hid (w.heap.size + 4 ≤ w3.heap.size) := Lib.hid (Nat.le_trans HS0.out HG3.out.size)
      have HNX : Hid (∀ g, w3.heap.size ≤ g → w.heap.size + 4 ≤ g) := Lib.hid (fun g hg => Nat.le_trans HSZ.out hg)
      have HNE : Hid (some (w.heap.size + 1) ≠ (Value.slice A5 pre.length c5).ownBlock) := Lib.hid (fun e => by have := (HA3.out.lt _ e.symm).1; omega)
      have HU : Hid (Sl (encS encU) (fun g => w.heap.size + 4 ≤ g ∧ some g ≠ (Value.slice A5 pre.length c5).ownBlock) w3 (.slice A6 n6 c6) (comsI p l1 l2)) := Lib.hid (hs3.more (fun g _ hg => ⟨Nat.le_trans HS0.out hg, fun e => by have h1 := (HAO.out.lt g e.symm).2; have h2 : W.heap.size ≤ g := hg; omega⟩))
      have hc3 := HB3.out.cell
      have hc3a := (HB3.out.alloc (.cells #[.slice A6 n6 c6] 28)).cell
      clear hg3 hs3
      dsimp only
      refine hK _ _ ?_
      clear hK K
      try simp only [Act.put, List.setIfInBounds_toArray, List.set_cons_zero, List.set_cons_succ]
      refine wpAny_ready (rs := [5]) (by kernel_rfl) (by simp) ?_
      refine AllReady.cons (o := ({ dst := some 20, op := Op.buildSlice 29 1 #[(0, Operand.tmp 19)], type := 29, pos := "pedersen.go:80", after := #[{ on := 4, ground := Ground.data }], guard := none } : Oper)) rfl (fun K hK => ?_) AllReady.nil
      go_simp
      refine hK _ _ ?_
      clear hK K
      try simp only [Act.put, List.setIfInBounds_toArray, List.set_cons_zero, List.set_cons_succ]
      refine wpAny_ready (rs := [6]) (by kernel_rfl) (by simp) ?_
      refine AllReady.cons (o := ({ dst := some 21, op := Op.call { callee := Callee.builtin Builtin.append, args := #[Operand.tmp 15, Operand.tmp 20], argTypes := #[29, 29] }, type := 29, pos := "pedersen.go:80", after := #[{ on := 0, ground := Ground.data }, { on := 5, ground := Ground.data }, { on := 4, ground := Ground.chain }], guard := none } : Oper)) rfl (fun K hK => ?_) AllReady.nil
      refine step_push rfl (.tmp 15) (.tmp 20) rfl (E := encS (encS encU)) (y := comsI p l1 l2) el_rows HA3.out rfl rfl ⟨_, rfl, HU.out⟩ HLB.out HSZ.out HNX.out ?_
      intro v4 w4 hacc4 hg4 _
      obtain ⟨A4, c4, e4, _, _⟩ := hacc4.sl.form
      generalize (List.map (fun x : SS (encS encU) X w small2 => comsI p x.lists.1 x.lists.2) pre ++ [comsI p l1 l2]).length = n4 at e4
      subst e4
      have HA4 := Lib.hid hacc4
      have HG4 := Lib.hid hg4
      have hB4 := HB3.out.kept HG4.out HNE.out
      have cB4 := hB4.cell
      have fB4 := hB4.frozen
      have HB4 := Lib.hid hB4
      clear hacc4 hg4 hB4
      refine hK _ _ ?_
      clear hK K
      try simp only [Act.put, List.setIfInBounds_toArray, List.set_cons_zero, List.set_cons_succ]
      refine wpAny_ready (rs := [7]) (by kernel_rfl) (by simp) ?_
      refine AllReady.cons (o := ({ dst := none, op := Op.store 29 (Operand.tmp 7) (Operand.tmp 21), type := 0, pos := "pedersen.go:80", after := #[{ on := 6, ground := Ground.data }, { on := 6, ground := Ground.chain }, { on := 0, ground := Ground.phase }, { on := 1, ground := Ground.phase }, { on := 2, ground := Ground.phase }, { on := 3, ground := Ground.phase }, { on := 4, ground := Ground.phase }, { on := 5, ground := Ground.phase }, { on := 6, ground := Ground.phase }], guard := none } : Oper)) rfl (fun K hK => ?_) AllReady.nil
      go_simp
      refine hK _ _ ?_
      clear hK K
      try simp only [Act.put, List.setIfInBounds_toArray, List.set_cons_zero, List.set_cons_succ]
      refine wpAny_done (by kernel_rfl) ?_ _
      exact ⟨rfl, FIN w3 w4 A4 n4 c4 HG3.out HG4.out HA3.out HA4.out HB4.out⟩
    refine AllReady.cons (o := ({ dst := some 19, op := Op.call { callee := Callee.value (Operand.func 12), args := #[Operand.tmp 16, Operand.tmp 17, Operand.tmp 18], argTypes := #[25, 28, 28] }, type := 28, pos := "pedersen.go:80", after := #[{ on := 1, ground := Ground.data }, { on := 2, ground := Ground.data }, { on := 3, ground := Ground.data }], guard := none } : Oper)) rfl (fun K hK => ?_) AllReady.nil
    go_simp
    (go_at_call 12; (with_reducible refine (HCOM.out _ HDR.out).mono ?_); rintro e w3 ⟨v3, rfl, hs3, hg3⟩)
    obtain ⟨A6, c6, e6, _, _⟩ := hs3.form
    generalize (comsI p l1 l2).length = n6 at e6
    subst e6
    have HG3 : Hid (W.grownBy w3 none) := Lib.hid ((grown_drewN' W 1).trans hg3)
    have HA3 := Lib.hid (HAO.out.kept HG3.out)
    have HB3 := Lib.hid (HBO.out.kept HG3.out (by simp))
    have HSZ : Hid (w.heap.size + 4 ≤ w3.heap.size) := Lib.hid (Nat.le_trans HS0.out HG3.out.size)
    have HNX : Hid (∀ g, w3.heap.size ≤ g → w.heap.size + 4 ≤ g) := Lib.hid (fun g hg => Nat.le_trans HSZ.out hg)
    have HNE : Hid (some (w.heap.size + 1) ≠ (Value.slice A5 pre.length c5).ownBlock) := Lib.hid (fun e => by have := (HA3.out.lt _ e.symm).1; omega)
    have HU : Hid (Sl (encS encU) (fun g => w.heap.size + 4 ≤ g ∧ some g ≠ (Value.slice A5 pre.length c5).ownBlock) w3 (.slice A6 n6 c6) (comsI p l1 l2)) := Lib.hid (hs3.more (fun g _ hg => ⟨Nat.le_trans HS0.out hg, fun e => by have h1 := (HAO.out.lt g e.symm).2; have h2 : W.heap.size ≤ g := hg; omega⟩))
    have hc3 := HB3.out.cell
    have hc3a := (HB3.out.alloc (.cells #[.slice A6 n6 c6] 28)).cell
    clear hg3 hs3
    dsimp only
    refine hK _ _ ?_
    clear hK K
    try simp only [Act.put, List.setIfInBounds_toArray, List.set_cons_zero, List.set_cons_succ]
    refine wpAny_ready (rs := [0, 5]) (by kernel_rfl) (by simp) ?_
    refine AllReady.cons (o := ({ dst := some 15, op := Op.load 29 (Operand.tmp 7), type := 29, pos := "pedersen.go:80", after := #[], guard := none } : Oper)) rfl (fun K hK => ?_) ?_
    · skip
      go_simp
      refine hK _ _ ?_
      clear hK K
      try simp only [Act.put, List.setIfInBounds_toArray, List.set_cons_zero, List.set_cons_succ]
      refine wpAny_ready (rs := [5]) (by kernel_rfl) (by simp) ?_
      refine AllReady.cons (o := ({ dst := some 20, op := Op.buildSlice 29 1 #[(0, Operand.tmp 19)], type := 29, pos := "pedersen.go:80", after := #[{ on := 4, ground := Ground.data }], guard := none } : Oper)) rfl (fun K hK => ?_) AllReady.nil
      go_simp
      refine hK _ _ ?_
      clear hK K
      try simp only [Act.put, List.setIfInBounds_toArray, List.set_cons_zero, List.set_cons_succ]
      refine wpAny_ready (rs := [6]) (by kernel_rfl) (by simp) ?_
      refine AllReady.cons (o := ({ dst := some 21, op := Op.call { callee := Callee.builtin Builtin.append, args := #[Operand.tmp 15, Operand.tmp 20], argTypes := #[29, 29] }, type := 29, pos := "pedersen.go:80", after := #[{ on := 0, ground := Ground.data }, { on := 5, ground := Ground.data }, { on := 4, ground := Ground.chain }], guard := none } : Oper)) rfl (fun K hK => ?_) AllReady.nil
      refine step_push rfl (.tmp 15) (.tmp 20) rfl (E := encS (encS encU)) (y := comsI p l1 l2) el_rows HA3.out rfl rfl ⟨_, rfl, HU.out⟩ HLB.out HSZ.out HNX.out ?_
      intro v4 w4 hacc4 hg4 _
      obtain ⟨A4, c4, e4, _, _⟩ := hacc4.sl.form
      generalize (List.map (fun x : SS (encS encU) X w small2 => comsI p x.lists.1 x.lists.2) pre ++ [comsI p l1 l2]).length = n4 at e4
      subst e4
      have HA4 := Lib.hid hacc4
      have HG4 := Lib.hid hg4
      have hB4 := HB3.out.kept HG4.out HNE.out
      have cB4 := hB4.cell
      have fB4 := hB4.frozen
      have HB4 := Lib.hid hB4
      clear hacc4 hg4 hB4
      refine hK _ _ ?_
      clear hK K
      try simp only [Act.put, List.setIfInBounds_toArray, List.set_cons_zero, List.set_cons_succ]
      refine wpAny_ready (rs := [7]) (by kernel_rfl) (by simp) ?_
      refine AllReady.cons (o := ({ dst := none, op := Op.store 29 (Operand.tmp 7) (Operand.tmp 21), type := 0, pos := "pedersen.go:80", after := #[{ on := 6, ground := Ground.data }, { on := 6, ground := Ground.chain }, { on := 0, ground := Ground.phase }, { on := 1, ground := Ground.phase }, { on := 2, ground := Ground.phase }, { on := 3, ground := Ground.phase }, { on := 4, ground := Ground.phase }, { on := 5, ground := Ground.phase }, { on := 6, ground := Ground.phase }], guard := none } : Oper)) rfl (fun K hK => ?_) AllReady.nil
      go_simp
      refine hK _ _ ?_
      clear hK K
      try simp only [Act.put, List.setIfInBounds_toArray, List.set_cons_zero, List.set_cons_succ]
      refine wpAny_done (by kernel_rfl) ?_ _
      exact ⟨rfl, FIN w3 w4 A4 n4 c4 HG3.out HG4.out HA3.out HA4.out HB4.out⟩
    refine AllReady.cons (o := ({ dst := some 20, op := Op.buildSlice 29 1 #[(0, Operand.tmp 19)], type := 29, pos := "pedersen.go:80", after := #[{ on := 4, ground := Ground.data }], guard := none } : Oper)) rfl (fun K hK => ?_) AllReady.nil
    go_simp
    refine hK _ _ ?_
    clear hK K
    try simp only [Act.put, List.setIfInBounds_toArray, List.set_cons_zero, List.set_cons_succ]
    refine wpAny_ready (rs := [0]) (by kernel_rfl) (by simp) ?_
    refine AllReady.cons (o := ({ dst := some 15, op := Op.load 29 (Operand.tmp 7), type := 29, pos := "pedersen.go:80", after := #[], guard := none } : Oper)) rfl (fun K hK => ?_) AllReady.nil
    go_simp
    refine hK _ _ ?_
    clear hK K
    try simp only [Act.put, List.setIfInBounds_toArray, List.set_cons_zero, List.set_cons_succ]
    refine wpAny_ready (rs := [6]) (by kernel_rfl) (by simp) ?_
    refine AllReady.cons (o := ({ dst := some 21, op := Op.call { callee := Callee.builtin Builtin.append, args := #[Operand.tmp 15, Operand.tmp 20], argTypes := #[29, 29] }, type := 29, pos := "pedersen.go:80", after := #[{ on := 0, ground := Ground.data }, { on := 5, ground := Ground.data }, { on := 4, ground := Ground.chain }], guard := none } : Oper)) rfl (fun K hK => ?_) AllReady.nil
    refine step_push rfl (.tmp 15) (.tmp 20) rfl (E := encS (encS encU)) (y := comsI p l1 l2) el_rows HA3.out rfl rfl ⟨_, rfl, HU.out⟩ HLB.out HSZ.out HNX.out ?_
    intro v4 w4 hacc4 hg4 _
    obtain ⟨A4, c4, e4, _, _⟩ := hacc4.sl.form
    generalize (List.map (fun x : SS (encS encU) X w small2 => comsI p x.lists.1 x.lists.2) pre ++ [comsI p l1 l2]).length = n4 at e4
    subst e4
    have HA4 := Lib.hid hacc4
    have HG4 := Lib.hid hg4
    have hB4 := HB3.out.kept HG4.out HNE.out
    have cB4 := hB4.cell
    have fB4 := hB4.frozen
    have HB4 := Lib.hid hB4
    clear hacc4 hg4 hB4
    refine hK _ _ ?_
    clear hK K
    try simp only [Act.put, List.setIfInBounds_toArray, List.set_cons_zero, List.set_cons_succ]
    refine wpAny_ready (rs := [7]) (by kernel_rfl) (by simp) ?_
    refine AllReady.cons (o := ({ dst := none, op := Op.store 29 (Operand.tmp 7) (Operand.tmp 21), type := 0, pos := "pedersen.go:80", after := #[{ on := 6, ground := Ground.data }, { on := 6, ground := Ground.chain }, { on := 0, ground := Ground.phase }, { on := 1, ground := Ground.phase }, { on := 2, ground := Ground.phase }, { on := 3, ground := Ground.phase }, { on := 4, ground := Ground.phase }, { on := 5, ground := Ground.phase }, { on := 6, ground := Ground.phase }], guard := none } : Oper)) rfl (fun K hK => ?_) AllReady.nil
    go_simp
    refine hK _ _ ?_
    clear hK K
    try simp only [Act.put, List.setIfInBounds_toArray, List.set_cons_zero, List.set_cons_succ]
    refine wpAny_done (by kernel_rfl) ?_ _
    exact ⟨rfl, FIN w3 w4 A4 n4 c4 HG3.out HG4.out HA3.out HA4.out HB4.out⟩
  case done =>
    rintro D zs W hD hzs ⟨⟨v, hbo, hao⟩, hbp, hbl, hba, hbb⟩ hK
    have cO := hbo.cell
    rw [map_lists_mat p hzs] at hao
    obtain ⟨A3, c3, e3, _, _⟩ := hao.sl.form
    rw [List.length_map] at e3
    subst e3
    gi_wp2
    refine ⟨by simp, .inl ⟨_, _, rfl, run_takeDeferred hK, ?_⟩⟩
    refine ⟨_, results_tmp rfl _ _ _, .slice A3 (zipS f r).length c3, rfl, ?_, ?_⟩
    · exact (hao.sl.keepc (grownBy_putObj' W D _) (fun r e => ⟨.deferred (some []), by cases e; exact hK, rfl⟩)).more (Y := fun g => w.heap.size ≤ g) (fun g _ h => Nat.le_trans (Nat.le_add_right _ 4) h)
    · exact grown_of_below (hbl.trans (belowK_b (w := w) (Nat.le_refl _) W D _ _ (by omega) hK rfl rfl))
  case stop =>
    rintro D c pre W _ _ h _
    exact h.elim
end Go.Proofs.Ytmbbahlenanpfaa
