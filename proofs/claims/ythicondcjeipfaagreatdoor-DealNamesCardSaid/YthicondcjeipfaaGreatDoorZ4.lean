/- consistorylaw18.works, walked (printed by mk_wk.py). The document's Times, Power, Commit, At, Is of the layer group, walked: what they tell is what group's tell. The document's value of a polynomial, power by power, is what poly.Eval tells (plain law). deal.At, walked (printed by mk_dealf.py). pedersen.RowComs, Fits, slices.Equal of numbers, walked. consistoryref18.value, walked; what lists made since are told by. consistoryref18's half, At, committed; consistoryref08's Share, ColComs: walked (printed by mkt.py). deal.flat, deal.Flat, deal.Pack, walked (printed by mk_pack.py). consistoryref18's Flat, Pairs, Pack, committed; consistoryref08's RowComs, Fits: walked (printed by mkt.py). consistoryref18.committed; consistoryref08's RowComs, Fits, Nums, Lists: walked (printed by mkt.py). consistoryref08's RowComs, Fits, Lists: walked (printed by mkt.py). deal.fits, and consistoryref08's Fits and Lists, whatever comes in: walked (printed by mkt.py). deal.fits of what fits, RowFits, ColFits, Meets, walked (printed by mk_deali.py). consistoryref08's Fits and Lists, deal's and the document's RowFits, ColFits, Meets, whatever comes in: walked (printed by mkt.py). Params and pairs that came in by value. What comes in, with the bounds that the rows lay on every slice. deal.Pack of what is small; law18's size and large: walked. deal.two, walked. Pairs, cell by cell. deal.pairs, deal.two, walked (printed by mk_deale.py). bivar.columns, an iterator over the columns of lists, walked. bivar.Row and Col, walked. bivar.Col, walked. What deal.Make makes: its lists, and two lists side by side in a struct that is written. -/
import Derived.Test.YthicondcjeipfaaGreatDoorZ3
import Derived.Deep.RegionHeld3
import Derived.Deep.DeepCutAuto
namespace Go.Proofs.YthicondcjeipfaaGreatDoor
open Go Go.RowKit

set_option maxHeartbeats 400000 in
theorem small18_any (w : World) : Calls Tryz.prog 4 #[] w fun e w' => e = .returned ps.v ∧ w.grownBy w' none := by
  have HB := Lib.hid (Bk.new w 24 #[.int .u64 0, .int .u64 0, .int .u64 0, .int .u64 0, .int .i64 0, .int .i64 0, .int .i64 0, .int .i64 0, .int .i64 0, .int .i64 0, .int .i64 0, .int .i64 0])
  go_enter Tryz.func4, Tryz.ntmps4
  go_wp2
  first
    | (go_ret; exact ⟨rfl, World.grownBy.refl _ none⟩)
    | exact bodyPost_ret (v := ps.v) (by simp [results, Tryz.results4, go_sem]) rfl ⟨rfl, World.grownBy_alloc w _ none⟩
theorem sl_is {X : Nat → Prop} {w : World} {v : Value} {l : List Int} (h : Sl encU X w v l) : SlIs w v l := by
  obtain ⟨A, c, e, h1, h2, h3⟩ := h
  refine ⟨A, c, e, fun hn => ?_, h1, h2⟩
  obtain ⟨g, o, eA, lt, _, hi⟩ := h3 (fun e => hn (by rw [e]; rfl))
  refine ⟨g, o, eA, lt, fun j u hu => ?_⟩
  have hj : j < l.length := by
    rcases Nat.lt_or_ge j l.length with h | h
    · exact h
    · simp [nums, List.getElem?_eq_none h] at hu
  obtain ⟨cs, ⟨e1, _⟩, hc⟩ := hi j hj
  have := hc 0 (.int .u64 l[j]) (by rw [e1]; rfl)
  have hu2 : u = .int .u64 l[j] := by simp [nums, hj] at hu; exact hu.symm
  rw [hu2]
  simpa [encU] using this
/-- Where the worlds stand while the example is dealt. -/
def wkLt (D : World) (SH : List (List (Int × Int))) : Lt where
  C vs W := D.grownBy W none ∧ match vs with
    | [] => True
    | [x] => ∃ a b, x = .tuple #[a, b, .int .i64 0] ∧ Sl (encS encP) TT W a SH
    | _ => False
  R q W W' := match q with
    | 0 => ∃ b t cs, Bk W b t cs ∧ NoTwo cs ∧ W.grownBy W' (some b)
    | _ => False
  g := fun {vs X Y} ⟨h1, h2⟩ hg => ⟨h1.trans hg, by
    match vs, h2 with
    | [], h2 => exact h2
    | [_], ⟨a, b, c, d⟩ => exact ⟨a, b, c, d.kept hg⟩⟩
theorem wk_at {D : World} {SH : List (List (Int × Int))} {vs : List Value} {W : World} {x : Value} (hC : (wkLt D SH).C vs W) (h : vs[0]? = some x) : ∃ a b, x = .tuple #[a, b, .int .i64 0] := by
  obtain ⟨_, h2⟩ := hC
  match vs, h, h2 with
  | [y], h, ⟨a, b, c, _⟩ =>
    have h : some y = some x := h
    injection h with h
    exact ⟨a, b, h ▸ c⟩
def wkS {D : World} {SH : List (List (Int × Int))} (S : List Int) (hS : 2 ≤ S.length) : Qv (wkLt D SH) where
  p _ v W := Sl encU TT W v S
  fr := 0
  st := fun h hg => h.kept hg
  sr := fun {vs u v w w'} _ _ hR h => by
    match vs, hR with
    | [], hR =>
      obtain ⟨b, t, cs, hb, hc, hg⟩ : ∃ b t cs, Bk w b t cs ∧ NoTwo cs ∧ w.grownBy w' (some b) := hR
      exact ((sl_apartU h hS hb hc).keep hg (fun g hn e => hn (by injection e with e))).more fun _ _ _ => trivial
    | _ :: _, hR => exact hR.elim
def wkT {D : World} {SH : List (List (Int × Int))} (T : TS) : Qv (wkLt D SH) where
  p vs v W := vs = [] → ∃ b ga, v = .pointer (some ⟨b, 0, none⟩) ∧ TapeIs W b ga T ∧ ga < W.heap.size ∧ D.heap.size ≤ b
  fr := 0
  st := fun h hg e => by
    obtain ⟨b, ga, k1, k2, k3, k4⟩ := h e
    exact ⟨b, ga, k1, k2.kept hg, Nat.lt_of_lt_of_le k3 hg.size, k4⟩
  sr := fun _ _ _ _ e => absurd e (by simp)
def wkX {D : World} {SH : List (List (Int × Int))} : Qv (wkLt D SH) where
  p vs v _ := vs[0]? = some v
  fr := 0
  st := fun h _ => h
  sr := fun {vs u v w w'} _ _ _ h => by
    have := (List.getElem?_eq_some_iff.1 h).1
    rw [List.getElem?_append_left this]
    exact h
def wkE {D : World} {SH : List (List (Int × Int))} : Qv (wkLt D SH) where
  p vs v _ := ∃ b, vs[0]? = some (.tuple #[v, b, .int .i64 0])
  fr := 0
  st := fun {vs v w w'} ⟨b, h⟩ _ => ⟨b, h⟩
  sr := fun {vs u v w w'} _ _ _ ⟨b, h⟩ => ⟨b, by
    have := (List.getElem?_eq_some_iff.1 h).1
    rw [List.getElem?_append_left this]
    exact h⟩
abbrev T6 : TS := ⟨[1, 2, 3, 4, 5, 6], 0, 0⟩
abbrev dr6 : Nat → Int := fun k => (tsk 11 T6 k).val 11
abbrev SH6 : List (List (Int × Int)) := (List.range 4).map fun i : Nat => dealtI ps (dealFs [5, 7] 11 dr6 1 0 2) (dealRs 11 dr6 1 0 2) ((i : Int) + 1)
theorem sh6_0 : SH6[0]? = some [(6, 5), (0, 0)] := by decide +kernel
theorem sh6_len : SH6.length = 4 := by decide +kernel
theorem sl57 (w : World) : Sl encU TT (w.alloc (.cells #[.int .u64 5, .int .u64 7] 22)) (.slice (some ⟨w.heap.size, 0, none⟩) 2 2) [5, 7] := Sl.build [[.int .u64 5], [.int .u64 7]] rfl ⟨⟨rfl, by decide⟩, ⟨rfl, by decide⟩, trivial⟩ rfl (by decide)
theorem sl16 (w : World) : Sl encU TT (w.alloc (.cells #[.int .u64 1, .int .u64 2, .int .u64 3, .int .u64 4, .int .u64 5, .int .u64 6] 22)) (.slice (some ⟨w.heap.size, 0, none⟩) 6 6) [1, 2, 3, 4, 5, 6] := Sl.build [[.int .u64 1], [.int .u64 2], [.int .u64 3], [.int .u64 4], [.int .u64 5], [.int .u64 6]] rfl ⟨⟨rfl, by decide⟩, ⟨rfl, by decide⟩, ⟨rfl, by decide⟩, ⟨rfl, by decide⟩, ⟨rfl, by decide⟩, ⟨rfl, by decide⟩, trivial⟩ rfl (by decide)
theorem zeros_sl (w : World) (n : Nat) (hn : n ≤ 1000) : Sl encU TT (w.alloc (.cells (madeCells #[.int .u64 0] n) 22)) (.slice (some ⟨w.heap.size, 0, none⟩) n n) (List.replicate n 0) := by
  have h := Sl.block (E := encU) (X := TT) (xs := List.replicate n (0 : Int)) (c := n) (Bk.new w 22 (madeCells #[.int .u64 0] n)) trivial ((List.replicate n (0 : Int)).map fun x => [.int .u64 x]) (by simp) (fun i hi hi' => by
    simp only [List.getElem_map]
    refine ⟨rfl, ?_⟩
    rw [List.getElem_replicate]
    exact ⟨by decide, by decide⟩) (by rw [toList_madeCells_one]; simp [List.map_replicate]) (by simp) (by omega)
  rwa [List.length_replicate] at h
def M15 : List (List (List Int)) := opnM ps (List.replicate 15 0) 1
def A15 : List (List (Int × Int)) := opnA ps (List.replicate 15 0) 1
def B15 : List (List (Int × Int)) := opnB ps (List.replicate 15 0) 1
def M16 : List (List (List Int)) := opnM ps (List.replicate 16 0) 1
def A16 : List (List (Int × Int)) := opnA ps (List.replicate 16 0) 1
def B16 : List (List (Int × Int)) := opnB ps (List.replicate 16 0) 1
theorem m16_eq : M16 = [[[0, 0], [0, 0]], [[0, 0], [0, 0]]] := by decide +kernel
theorem a16_len : A16.length = 2 := by decide +kernel
theorem b16_eq : B16 = [[(0, 0)], [(0, 0)]] := by decide +kernel
def opPv (n : Int) (M : List (List (List Int))) (A B : List (List (Int × Int))) : Pv := ⟨fun v W => ∃ a b c, v = .tuple #[a, b, c, .int .i64 n] ∧ Sl (encS (encS encU)) TT W a M ∧ Sl (encS encP) TT W b A ∧ Sl (encS encP) TT W c B, fun ⟨a, b, c, e, h1, h2, h3⟩ hg => ⟨a, b, c, e, h1.kept hg, h2.kept hg, h3.kept hg⟩⟩
set_option maxRecDepth 100000 in
set_option maxHeartbeats 8000000 in
theorem works18_any (w : World) (hT : TabsAt w) : Calls Tryz.prog 5 #[] w fun e w' => e = .returned (.bool true) ∧ w.grownBy w' none := by
  have HTB := Lib.hid hT
  have HMAY : Hid (mayP ps = true) := Lib.hid (by decide +kernel)
  clear hT
  go_enter Tryz.func5, Tryz.ntmps5
  go_wp2_with fail
  refine (small18_any w).mono ?_
  rintro e w1 ⟨rfl, hg1⟩
  obtain ⟨w2, hw2⟩ : ∃ y, y = w1.alloc (Obj.cells ps.cells 24) := ⟨_, rfl⟩
  obtain ⟨gp, hgp⟩ : ∃ y, y = w1.heap.size := ⟨_, rfl⟩
  have HBp : Hid (Bk w2 gp 24 ps.cells) := Lib.hid (by rw [hw2, hgp]; exact Bk.new _ _ _)
  have HG2 : Hid (w.grownBy w2 none) := Lib.hid (by rw [hw2]; exact hg1.trans (World.grownBy_alloc _ _ none))
  clear hg1
  go_upto_region 2 with (fail)
  first | rw [← hw2, ← hgp] | (have hw2' : w1.alloc (Obj.cells #[.int .u64 23, .int .u64 11, .int .u64 4, .int .u64 9, .int .i64 4, .int .i64 4, .int .i64 1, .int .i64 1, .int .i64 1, .int .i64 1, .int .i64 1, .int .i64 1] 24) = w2 := hw2.symm; rw [hw2', ← hgp]; clear hw2')
  clear hw2 hgp
  obtain ⟨D, hD⟩ : ∃ y, y = w2.drew := ⟨_, rfl⟩
  have HGD : Hid (w2.grownBy D none) := Lib.hid (by rw [hD]; exact grown_drewN' _ 1)
  have HLD : Hid (∀ vs W, (wkLt D SH6).C vs W → ∀ o, W.cell? ⟨gp, o, none⟩ = ps.cells[o]?) := Lib.hid (fun vs W hC => (HBp.out.grown (HGD.out.trans hC.1) (by simp)).cell)
  have HDM : Hid (∀ (b ga : Nat) (W : World) (x : Value), D.grownBy W none → Sl encU TT W x [5, 7] → TapeIs W b ga T6 → ga < W.heap.size → Calls Tryz.prog 15 #[ps.v, x, .pointer (some ⟨b, 0, none⟩)] W fun e w' => ∃ vs vc, e = .returned (.tuple #[vs, vc, .int .i64 0]) ∧ Sl (encS encP) TT w' vs SH6 ∧ W.grownBy w' (some b)) := Lib.hid (fun b ga W x hg hx hti hga => by
    obtain ⟨At, ct, hbt, _⟩ := id hti
    have hx2 := sl_apartU hx (by decide) hbt (tape_ints _ _ _ _ _)
    refine (dmodel_any ps x [5, 7] _ W (tp_ahead b ga 11 T6 ⟨by decide, by decide, by decide, by decide⟩ (by decide) ⟨by decide, by decide⟩) ps_ok HMAY.out (HTB.out.kept (HG2.out.trans (HGD.out.trans hg))) hx2 (fun b hb => hb) (by decide +kernel) 0 1 rfl ⟨hti, hga⟩ (by decide)).mono ?_
    rintro e w' ⟨vs, vc, rfl, k1, k2, k3, k4⟩
    exact ⟨vs, vc, rfl, k1, k4⟩)
  refine wp_region_late (wkLt D SH6) [4] 12 (by kernel_rfl) (by kernel_rfl) (by kernel_rfl) ⟨by rw [← hD]; exact World.grownBy.refl _ none, trivial⟩ ?_
  -- op 0 (slot 15): load
  refine LateR.mono (Qv.eq (ps.v)) [] (by kernel_rfl) (by rfl) rfl (fun vs w' hC => ?_) ?_
  · refine askl_do rfl fun K hK => ?_
    have hp := HLD.out vs w' hC
    go_simp
    exact hK _ _ rfl ⟨rfl, World.grownBy.refl _ none⟩
  -- op 1 (slot 16): buildSlice
  refine LateR.mono (wkS [5, 7] (by decide)) [] (by kernel_rfl) (by rfl) rfl (fun vs w' hC => ?_) ?_
  · refine askl_do rfl fun K hK => ?_
    go_simp
    exact hK _ _ rfl ⟨sl57 w', World.grownBy_alloc w' _ none⟩
  -- op 2 (slot 17): buildSlice
  refine LateR.mono (wkS [1, 2, 3, 4, 5, 6] (by decide)) [] (by kernel_rfl) (by rfl) rfl (fun vs w' hC => ?_) ?_
  · refine askl_do rfl fun K hK => ?_
    go_simp
    exact hK _ _ rfl ⟨sl16 w', World.grownBy_alloc w' _ none⟩
  -- op 3 (slot 18): call
  refine LateR.mono (wkT T6) [(2, 17)] (by kernel_rfl) (by rfl) rfl (fun vs w' hC => ?_) ?_
  · intro x17 h17
    have h17 : Sl encU TT w' x17 [1, 2, 3, 4, 5, 6] := h17
    refine askl_do rfl fun K hK => ?_
    go_simp
    refine (of_made x17 [1, 2, 3, 4, 5, 6] 0 w' (sl_is h17) (by decide)).mono ?_
    rintro e w3 ⟨b, ga, rfl, k1, k2, k3, k4, k5⟩
    exact hK _ _ rfl ⟨fun _ => ⟨b, ga, rfl, k1, k4, Nat.le_trans hC.1.size k2⟩, k5⟩
  -- op 4 (slot 19): call
  refine LateR.turn 0 [(0, 15), (1, 16), (3, 18)] (by kernel_rfl) rfl (fun vs w' hl hC => ?_) ?_
  · rintro _ rfl
    intro x16 h16
    have h16 : Sl encU TT w' x16 [5, 7] := h16
    intro x18 h18
    have h18 : vs = [] → ∃ b ga, x18 = .pointer (some ⟨b, 0, none⟩) ∧ TapeIs w' b ga T6 ∧ ga < w'.heap.size ∧ D.heap.size ≤ b := h18
    refine askl_do rfl fun K hK => ?_
    obtain rfl : vs = [] := List.eq_nil_of_length_eq_zero hl
    obtain ⟨b, ga, rfl, k1, k2, k3⟩ := h18 rfl
    have hbk := k1
    obtain ⟨At, ct, hbt, _⟩ := hbk
    go_simp
    refine (HDM.out b ga w' x16 hC.1 h16 k1 k2).mono ?_
    rintro e w3 ⟨vs', vc, rfl, q1, q4⟩
    exact hK _ _ rfl ⟨⟨b, _, _, hbt, tape_ints _ _ _ _ _, q4⟩, grown_up hC.1 q4 (fun r e => by injection e with e; omega), vs', vc, rfl, q1⟩
  -- op 5 (slot 14): move
  refine LateR.mono (wkX) [(4, 19)] (by kernel_rfl) (by rfl) rfl (fun vs w' hC => ?_) ?_
  · intro x19 h19
    refine askl_do rfl fun K hK => ?_
    go_simp
    exact hK _ _ rfl ⟨h19, World.grownBy.refl _ none⟩
  -- op 6 (slot 20): extract
  refine LateR.mono (wkE) [(5, 14)] (by kernel_rfl) (by rfl) rfl (fun vs w' hC => ?_) ?_
  · intro x14 h14
    have h14 : vs[0]? = some x14 := h14
    refine askl_do rfl fun K hK => ?_
    obtain ⟨vs', vc, rfl⟩ := wk_at hC h14
    go_simp
    exact hK _ _ rfl ⟨⟨vc, h14⟩, World.grownBy.refl _ none⟩
  -- op 7 (slot 21): extract
  refine LateR.mono (Qv.any) [(5, 14)] (by kernel_rfl) (by rfl) rfl (fun vs w' hC => ?_) ?_
  · intro x14 h14
    have h14 : vs[0]? = some x14 := h14
    refine askl_do rfl fun K hK => ?_
    obtain ⟨vs', vc, rfl⟩ := wk_at hC h14
    go_simp
    exact hK _ _ rfl ⟨trivial, World.grownBy.refl _ none⟩
  -- op 8 (slot 22): extract
  refine LateR.mono (Qv.eq (.int .i64 0)) [(5, 14)] (by kernel_rfl) (by rfl) rfl (fun vs w' hC => ?_) ?_
  · intro x14 h14
    have h14 : vs[0]? = some x14 := h14
    refine askl_do rfl fun K hK => ?_
    obtain ⟨vs', vc, rfl⟩ := wk_at hC h14
    go_simp
    exact hK _ _ rfl ⟨rfl, World.grownBy.refl _ none⟩
  -- op 9 (slot 2): assign
  refine LateR.mono (wkE) [(6, 20)] (by kernel_rfl) (by rfl) rfl (fun vs w' hC => ?_) ?_
  · intro x20 h20
    have h20 : ∃ vc, vs[0]? = some (.tuple #[x20, vc, .int .i64 0]) := h20
    refine askl_do rfl fun K hK => ?_
    go_simp
    exact hK _ _ rfl ⟨h20, World.grownBy.refl _ none⟩
  -- op 10 (slot 3): assign
  refine LateR.mono (Qv.any) [(7, 21)] (by kernel_rfl) (by rfl) rfl (fun vs w' hC => ?_) ?_
  · intro x21 h21
    have h21 : True := h21
    refine askl_do rfl fun K hK => ?_
    go_simp
    exact hK _ _ rfl ⟨trivial, World.grownBy.refl _ none⟩
  -- op 11 (slot 4): assign
  refine LateR.mono (Qv.eq (.int .i64 0)) [(8, 22)] (by kernel_rfl) (by rfl) rfl (fun vs w' hC => ?_) ?_
  · rintro _ rfl
    refine askl_do rfl fun K hK => ?_
    go_simp
    exact hK _ _ rfl ⟨rfl, World.grownBy.refl _ none⟩
  intro vs w5 hvl hC5
  obtain ⟨u, rfl⟩ : ∃ u, vs = [u] := List.length_eq_one_iff.1 hvl
  intro y0 k0 y1 k1 y2 k2 y3 k3 y4 k4 y5 k5 y6 k6 y7 k7 y8 k8 y9 k9 y10 k10 y11 k11
  show wpList Tryz.prog _ _ _ _ w5
  simp only [Act.put, List.setIfInBounds_toArray, List.set_cons_zero, List.set_cons_succ]
  obtain ⟨g5, va, vb, eab, hSH5⟩ := hC5
  obtain ⟨vc', hv⟩ : ∃ vc, some u = some (.tuple #[y9, vc, .int .i64 0]) := k9
  have e9 : y9 = va := by
    injection hv with hv
    rw [eab] at hv
    injection hv with hv
    injection hv with hv
    injection hv with hv _
    exact hv.symm
  have e11 : y11 = .int .i64 0 := k11
  subst e9 e11
  obtain ⟨As, cs, es, hle, _⟩ := hSH5.form
  have hl4 : SH6.length = 4 := sh6_len
  rw [hl4] at es hle
  subst es
  have HG5 : Hid (w2.grownBy w5 none) := Lib.hid (HGD.out.trans g5)
  obtain ⟨gs, os, cs', us, eS, _, _, hcs, hss⟩ := hSH5.atS (k := 0) (by rw [hl4]; decide)
  injection eS with eS1 eS2 eS3
  subst eS1 eS3
  clear eS2
  have h60 : SH6[0]'(by rw [hl4]; decide) = [(6, 5), (0, 0)] := by
    have h := sh6_0
    rw [List.getElem?_eq_getElem (by rw [hl4]; decide)] at h
    injection h
  rw [h60] at hss
  rw [Nat.add_zero] at hcs
  obtain ⟨A0, c0, e0, hle0, _⟩ := hss.form
  have hle0 : 2 ≤ c0 := hle0
  have e0 : us = .slice A0 2 c0 := e0
  subst e0
  have HSS := Lib.hid hss
  obtain ⟨wa, hwa⟩ : ∃ y, y = w5.alloc (.cells #[.int .u64 6, .int .u64 5, .int .u64 0, .int .u64 0] 38) := ⟨_, rfl⟩
  have HGa : Hid (w5.grownBy wa none) := Lib.hid (by rw [hwa]; exact World.grownBy_alloc _ _ none)
  have HSa : Hid (Sl encP TT wa (.slice (some ⟨w5.heap.size, 0, none⟩) 2 2) [(6, 5), (0, 0)]) := Lib.hid (by
    rw [hwa]
    exact Sl.build [[.int .u64 6, .int .u64 5], [.int .u64 0, .int .u64 0]] rfl ⟨⟨rfl, by decide, by decide⟩, ⟨rfl, by decide, by decide⟩, trivial⟩ rfl (by decide))
  clear hSH5 hss g5 eab hv k0 k1 k2 k3 k4 k5 k6 k7 k8 k10 HLD HDM hl4 h60 hD
  go_wp2_with fail
  rw [← hwa]
  refine (same_eq _ _ _ _ _ wa (HSS.out.kept HGa.out) HSa.out).mono ?_
  rintro e w6 ⟨rfl, hgq⟩
  have hg : wa.grownBy w6 none := by obtain ⟨nq, rfl⟩ := hgq; exact grown_drewN' _ nq
  clear hgq
  have HG6 : Hid (w5.grownBy w6 none) := Lib.hid (HGa.out.trans hg)
  have hcs6 : w6.cell? ⟨gs, os, none⟩ = some (.slice A0 2 c0) := cell_kept hcs HG6.out (by simp)
  clear hg hwa
  go_wp2_with fail
  refine (dpairs_any _ _ _ w6 (HSS.out.kept HG6.out) (by decide)).mono ?_
  rintro e w7 ⟨v44, rfl, h44, hg⟩
  have HG7 : Hid (w5.grownBy w7 none) := Lib.hid (HG6.out.trans hg)
  obtain ⟨A44, n44, c44, rfl⟩ := h44.shape
  obtain ⟨wb, hwb⟩ : ∃ y, y = w7.alloc (.cells #[.int .u64 6, .int .u64 5, .int .u64 0, .int .u64 0] 22) := ⟨_, rfl⟩
  have HGb : Hid (w7.grownBy wb none) := Lib.hid (by rw [hwb]; exact World.grownBy_alloc _ _ none)
  have HSb : Hid (Sl encU TT wb (.slice (some ⟨w7.heap.size, 0, none⟩) 4 4) [6, 5, 0, 0]) := Lib.hid (by
    rw [hwb]
    exact Sl.build [[.int .u64 6], [.int .u64 5], [.int .u64 0], [.int .u64 0]] rfl ⟨⟨rfl, by decide⟩, ⟨rfl, by decide⟩, ⟨rfl, by decide⟩, ⟨rfl, by decide⟩, trivial⟩ rfl (by decide))
  have HS44 : Hid (Sl encU (fun g => w6.heap.size ≤ g) wb (.slice A44 n44 c44) [6, 5, 0, 0]) := Lib.hid (h44.kept HGb.out)
  clear hg h44 hcs hcs6
  go_wp2_with fail
  rw [← hwb]
  refine (nums_eq _ _ _ _ _ wb HS44.out HSb.out).mono ?_
  rintro e w8 ⟨rfl, hgq⟩
  have hg : wb.grownBy w8 none := by obtain ⟨nq, rfl⟩ := hgq; exact grown_drewN' _ nq
  clear hgq
  have HG8 : Hid (w2.grownBy w8 none) := Lib.hid (HG5.out.trans (HG7.out.trans (HGb.out.trans hg)))
  clear hg hwb
  go_upto_region 5 with (fail)
  have HMK15 : Hid (∀ w', (Instr.makeSlice 29 (.int .i64 15) (.int .i64 15)).run Tryz.prog w' = .ok (.slice (some ⟨w'.heap.size, 0, none⟩) 15 15) (w'.alloc (.cells (madeCells #[.int .u64 0] 15) 22))) := Lib.hid (run_make_row' (P := Tryz.prog) 29 22 (.int .u64 0) 8 Tryz.underlying29 info_u64 rfl .i64 .i64 15 (by decide) (by decide))
  have HMK16 : Hid (∀ w', (Instr.makeSlice 29 (.int .i64 16) (.int .i64 16)).run Tryz.prog w' = .ok (.slice (some ⟨w'.heap.size, 0, none⟩) 16 16) (w'.alloc (.cells (madeCells #[.int .u64 0] 16) 22))) := Lib.hid (run_make_row' (P := Tryz.prog) 29 22 (.int .u64 0) 8 Tryz.underlying29 info_u64 rfl .i64 .i64 16 (by decide) (by decide))
  have HOP15 : Hid (∀ W x, Sl encU TT W x (List.replicate 15 0) → Calls Tryz.prog 16 #[ps.v, x, .int .i64 1] W (Gives4 (fun g => W.heap.size ≤ g) W M15 A15 B15 4)) := Lib.hid (fun W x hx => by
    have := open_any ps x (List.replicate 15 0) 1 TT W hx (by simp) ⟨by decide, by decide⟩
    rw [show opnE ps (List.replicate 15 (0 : Int)).length 1 = 4 by decide +kernel] at this
    exact this)
  have HOP16 : Hid (∀ W x, Sl encU TT W x (List.replicate 16 0) → Calls Tryz.prog 16 #[ps.v, x, .int .i64 1] W (Gives4 (fun g => W.heap.size ≤ g) W M16 A16 B16 0)) := Lib.hid (fun W x hx => by
    have := open_any ps x (List.replicate 16 0) 1 TT W hx (by simp) ⟨by decide, by decide⟩
    rw [show opnE ps (List.replicate 16 (0 : Int)).length 1 = 0 by decide +kernel] at this
    exact this)
  have HD8 : Hid (w8.grownBy w8.drew none) := Lib.hid (grown_drewN' _ 1)
  have HLD : Hid (∀ W, w8.drew.grownBy W none → ∀ o, W.cell? ⟨gp, o, none⟩ = ps.cells[o]?) := Lib.hid (fun W hg => (HBp.out.grown (HG8.out.trans (HD8.out.trans hg)) (by simp)).cell)
  refine wp_region_mono 12 (by kernel_rfl) (by kernel_rfl) ?_
  -- op 0 (slot 50): load
  refine MonoR.step (Pv.eq (ps.v)) [] (by kernel_rfl) (fun w' hw' => ?_) ?_
  · refine ask_do rfl fun K hK => ?_
    have hp := HLD.out w' hw'
    go_simp
    exact hK _ _ rfl rfl (World.grownBy.refl _ none)
  -- op 1 (slot 51): makeSlice
  refine MonoR.step (Pv.sl encU TT (List.replicate 15 0)) [] (by kernel_rfl) (fun w' hw' => ?_) ?_
  · refine ask_do rfl fun K hK => ?_
    have hmk := HMK15.out w'
    go_simp
    exact hK _ _ rfl (zeros_sl w' 15 (by decide)) (World.grownBy_alloc w' _ none)
  -- op 2 (slot 52): call
  refine MonoR.step (opPv 4 M15 A15 B15) [(0, 50), (1, 51)] (by kernel_rfl) (fun w' hw' => ?_) ?_
  · rintro _ rfl
    intro x51 h51
    have h51 : Sl encU TT w' x51 (List.replicate 15 0) := h51
    refine ask_do rfl fun K hK => ?_
    go_simp
    refine (HOP15.out w' x51 h51).mono ?_
    rintro e w3 ⟨vm, va, vb, rfl, q1, q2, q3, q4⟩
    exact hK _ _ rfl ⟨vm, va, vb, rfl, (Sl.plain2 q1).more fun _ _ _ => trivial, q2.more fun _ _ _ => trivial, q3.more fun _ _ _ => trivial⟩ q4
  -- op 3 (slot 49): move
  refine MonoR.step (opPv 4 M15 A15 B15) [(2, 52)] (by kernel_rfl) (fun w' hw' => ?_) ?_
  · intro x52 h52
    have h52 : ∃ a b c, x52 = .tuple #[a, b, c, .int .i64 4] ∧ Sl (encS (encS encU)) TT w' a M15 ∧ Sl (encS encP) TT w' b A15 ∧ Sl (encS encP) TT w' c B15 := h52
    obtain ⟨a52, b52, c52, e52, ka52, kb52, kc52⟩ := h52
    subst e52
    refine ask_do rfl fun K hK => ?_
    go_simp
    exact hK _ _ rfl ⟨a52, b52, c52, rfl, ka52, kb52, kc52⟩ (World.grownBy.refl _ none)
  -- op 4 (slot 53): extract
  refine MonoR.step (Pv.sl (encS (encS encU)) TT M15) [(3, 49)] (by kernel_rfl) (fun w' hw' => ?_) ?_
  · intro x49 h49
    have h49 : ∃ a b c, x49 = .tuple #[a, b, c, .int .i64 4] ∧ Sl (encS (encS encU)) TT w' a M15 ∧ Sl (encS encP) TT w' b A15 ∧ Sl (encS encP) TT w' c B15 := h49
    obtain ⟨a49, b49, c49, e49, ka49, kb49, kc49⟩ := h49
    subst e49
    refine ask_do rfl fun K hK => ?_
    go_simp
    exact hK _ _ rfl ka49 (World.grownBy.refl _ none)
  -- op 5 (slot 54): extract
  refine MonoR.step (Pv.sl (encS encP) TT A15) [(3, 49)] (by kernel_rfl) (fun w' hw' => ?_) ?_
  · intro x49 h49
    have h49 : ∃ a b c, x49 = .tuple #[a, b, c, .int .i64 4] ∧ Sl (encS (encS encU)) TT w' a M15 ∧ Sl (encS encP) TT w' b A15 ∧ Sl (encS encP) TT w' c B15 := h49
    obtain ⟨a49, b49, c49, e49, ka49, kb49, kc49⟩ := h49
    subst e49
    refine ask_do rfl fun K hK => ?_
    go_simp
    exact hK _ _ rfl kb49 (World.grownBy.refl _ none)
  -- op 6 (slot 55): extract
  refine MonoR.step (Pv.sl (encS encP) TT B15) [(3, 49)] (by kernel_rfl) (fun w' hw' => ?_) ?_
  · intro x49 h49
    have h49 : ∃ a b c, x49 = .tuple #[a, b, c, .int .i64 4] ∧ Sl (encS (encS encU)) TT w' a M15 ∧ Sl (encS encP) TT w' b A15 ∧ Sl (encS encP) TT w' c B15 := h49
    obtain ⟨a49, b49, c49, e49, ka49, kb49, kc49⟩ := h49
    subst e49
    refine ask_do rfl fun K hK => ?_
    go_simp
    exact hK _ _ rfl kc49 (World.grownBy.refl _ none)
  -- op 7 (slot 56): extract
  refine MonoR.step (Pv.eq (.int .i64 4)) [(3, 49)] (by kernel_rfl) (fun w' hw' => ?_) ?_
  · intro x49 h49
    have h49 : ∃ a b c, x49 = .tuple #[a, b, c, .int .i64 4] ∧ Sl (encS (encS encU)) TT w' a M15 ∧ Sl (encS encP) TT w' b A15 ∧ Sl (encS encP) TT w' c B15 := h49
    obtain ⟨a49, b49, c49, e49, ka49, kb49, kc49⟩ := h49
    subst e49
    refine ask_do rfl fun K hK => ?_
    go_simp
    exact hK _ _ rfl rfl (World.grownBy.refl _ none)
  -- op 8 (slot 5): assign
  refine MonoR.step (Pv.sl (encS (encS encU)) TT M15) [(4, 53)] (by kernel_rfl) (fun w' hw' => ?_) ?_
  · intro x53 h53
    have h53 : Sl (encS (encS encU)) TT w' x53 M15 := h53
    refine ask_do rfl fun K hK => ?_
    go_simp
    exact hK _ _ rfl h53 (World.grownBy.refl _ none)
  -- op 9 (slot 6): assign
  refine MonoR.step (Pv.sl (encS encP) TT A15) [(5, 54)] (by kernel_rfl) (fun w' hw' => ?_) ?_
  · intro x54 h54
    have h54 : Sl (encS encP) TT w' x54 A15 := h54
    refine ask_do rfl fun K hK => ?_
    go_simp
    exact hK _ _ rfl h54 (World.grownBy.refl _ none)
  -- op 10 (slot 7): assign
  refine MonoR.step (Pv.sl (encS encP) TT B15) [(6, 55)] (by kernel_rfl) (fun w' hw' => ?_) ?_
  · intro x55 h55
    have h55 : Sl (encS encP) TT w' x55 B15 := h55
    refine ask_do rfl fun K hK => ?_
    go_simp
    exact hK _ _ rfl h55 (World.grownBy.refl _ none)
  -- op 11 (slot 8): assign
  refine MonoR.step (Pv.eq (.int .i64 4)) [(7, 56)] (by kernel_rfl) (fun w' hw' => ?_) ?_
  · rintro _ rfl
    refine ask_do rfl fun K hK => ?_
    go_simp
    exact hK _ _ rfl rfl (World.grownBy.refl _ none)
  
  intro w9 hw9
  intro y0 k0 y1 k1 y2 k2 y3 k3 y4 k4 y5 k5 y6 k6 y7 k7 y8 k8 y9 k9 y10 k10 y11 k11
  refine wpList_nil ?_
  simp only [Act.put, List.setIfInBounds_toArray, List.set_cons_zero, List.set_cons_succ]
  have e11 : y11 = .int .i64 4 := k11
  subst e11
  have HG9 : Hid (w2.grownBy w9 none) := Lib.hid (HG8.out.trans (HD8.out.trans hw9))
  clear hw9 HLD HD8 k0 k1 k2 k3 k4 k5 k6 k7 k8 k9 k10
  go_upto_region 6 with (fail)
  have HD9 : Hid (w9.grownBy w9.drew none) := Lib.hid (grown_drewN' _ 1)
  have HLD : Hid (∀ W, w9.drew.grownBy W none → ∀ o, W.cell? ⟨gp, o, none⟩ = ps.cells[o]?) := Lib.hid (fun W hg => (HBp.out.grown (HG9.out.trans (HD9.out.trans hg)) (by simp)).cell)
  refine wp_region_mono 12 (by kernel_rfl) (by kernel_rfl) ?_
  -- op 0 (slot 58): load
  refine MonoR.step (Pv.eq (ps.v)) [] (by kernel_rfl) (fun w' hw' => ?_) ?_
  · refine ask_do rfl fun K hK => ?_
    have hp := HLD.out w' hw'
    go_simp
    exact hK _ _ rfl rfl (World.grownBy.refl _ none)
  -- op 1 (slot 59): makeSlice
  refine MonoR.step (Pv.sl encU TT (List.replicate 16 0)) [] (by kernel_rfl) (fun w' hw' => ?_) ?_
  · refine ask_do rfl fun K hK => ?_
    have hmk := HMK16.out w'
    go_simp
    exact hK _ _ rfl (zeros_sl w' 16 (by decide)) (World.grownBy_alloc w' _ none)
  -- op 2 (slot 60): call
  refine MonoR.step (opPv 0 M16 A16 B16) [(0, 58), (1, 59)] (by kernel_rfl) (fun w' hw' => ?_) ?_
  · rintro _ rfl
    intro x59 h59
    have h59 : Sl encU TT w' x59 (List.replicate 16 0) := h59
    refine ask_do rfl fun K hK => ?_
    go_simp
    refine (HOP16.out w' x59 h59).mono ?_
    rintro e w3 ⟨vm, va, vb, rfl, q1, q2, q3, q4⟩
    exact hK _ _ rfl ⟨vm, va, vb, rfl, (Sl.plain2 q1).more fun _ _ _ => trivial, q2.more fun _ _ _ => trivial, q3.more fun _ _ _ => trivial⟩ q4
  -- op 3 (slot 57): move
  refine MonoR.step (opPv 0 M16 A16 B16) [(2, 60)] (by kernel_rfl) (fun w' hw' => ?_) ?_
  · intro x60 h60
    have h60 : ∃ a b c, x60 = .tuple #[a, b, c, .int .i64 0] ∧ Sl (encS (encS encU)) TT w' a M16 ∧ Sl (encS encP) TT w' b A16 ∧ Sl (encS encP) TT w' c B16 := h60
    obtain ⟨a60, b60, c60, e60, ka60, kb60, kc60⟩ := h60
    subst e60
    refine ask_do rfl fun K hK => ?_
    go_simp
    exact hK _ _ rfl ⟨a60, b60, c60, rfl, ka60, kb60, kc60⟩ (World.grownBy.refl _ none)
  -- op 4 (slot 61): extract
  refine MonoR.step (Pv.sl (encS (encS encU)) TT M16) [(3, 57)] (by kernel_rfl) (fun w' hw' => ?_) ?_
  · intro x57 h57
    have h57 : ∃ a b c, x57 = .tuple #[a, b, c, .int .i64 0] ∧ Sl (encS (encS encU)) TT w' a M16 ∧ Sl (encS encP) TT w' b A16 ∧ Sl (encS encP) TT w' c B16 := h57
    obtain ⟨a57, b57, c57, e57, ka57, kb57, kc57⟩ := h57
    subst e57
    refine ask_do rfl fun K hK => ?_
    go_simp
    exact hK _ _ rfl ka57 (World.grownBy.refl _ none)
  -- op 5 (slot 62): extract
  refine MonoR.step (Pv.sl (encS encP) TT A16) [(3, 57)] (by kernel_rfl) (fun w' hw' => ?_) ?_
  · intro x57 h57
    have h57 : ∃ a b c, x57 = .tuple #[a, b, c, .int .i64 0] ∧ Sl (encS (encS encU)) TT w' a M16 ∧ Sl (encS encP) TT w' b A16 ∧ Sl (encS encP) TT w' c B16 := h57
    obtain ⟨a57, b57, c57, e57, ka57, kb57, kc57⟩ := h57
    subst e57
    refine ask_do rfl fun K hK => ?_
    go_simp
    exact hK _ _ rfl kb57 (World.grownBy.refl _ none)
  -- op 6 (slot 63): extract
  refine MonoR.step (Pv.sl (encS encP) TT B16) [(3, 57)] (by kernel_rfl) (fun w' hw' => ?_) ?_
  · intro x57 h57
    have h57 : ∃ a b c, x57 = .tuple #[a, b, c, .int .i64 0] ∧ Sl (encS (encS encU)) TT w' a M16 ∧ Sl (encS encP) TT w' b A16 ∧ Sl (encS encP) TT w' c B16 := h57
    obtain ⟨a57, b57, c57, e57, ka57, kb57, kc57⟩ := h57
    subst e57
    refine ask_do rfl fun K hK => ?_
    go_simp
    exact hK _ _ rfl kc57 (World.grownBy.refl _ none)
  -- op 7 (slot 64): extract
  refine MonoR.step (Pv.eq (.int .i64 0)) [(3, 57)] (by kernel_rfl) (fun w' hw' => ?_) ?_
  · intro x57 h57
    have h57 : ∃ a b c, x57 = .tuple #[a, b, c, .int .i64 0] ∧ Sl (encS (encS encU)) TT w' a M16 ∧ Sl (encS encP) TT w' b A16 ∧ Sl (encS encP) TT w' c B16 := h57
    obtain ⟨a57, b57, c57, e57, ka57, kb57, kc57⟩ := h57
    subst e57
    refine ask_do rfl fun K hK => ?_
    go_simp
    exact hK _ _ rfl rfl (World.grownBy.refl _ none)
  -- op 8 (slot 9): assign
  refine MonoR.step (Pv.sl (encS (encS encU)) TT M16) [(4, 61)] (by kernel_rfl) (fun w' hw' => ?_) ?_
  · intro x61 h61
    have h61 : Sl (encS (encS encU)) TT w' x61 M16 := h61
    refine ask_do rfl fun K hK => ?_
    go_simp
    exact hK _ _ rfl h61 (World.grownBy.refl _ none)
  -- op 9 (slot 10): assign
  refine MonoR.step (Pv.sl (encS encP) TT A16) [(5, 62)] (by kernel_rfl) (fun w' hw' => ?_) ?_
  · intro x62 h62
    have h62 : Sl (encS encP) TT w' x62 A16 := h62
    refine ask_do rfl fun K hK => ?_
    go_simp
    exact hK _ _ rfl h62 (World.grownBy.refl _ none)
  -- op 10 (slot 11): assign
  refine MonoR.step (Pv.sl (encS encP) TT B16) [(6, 63)] (by kernel_rfl) (fun w' hw' => ?_) ?_
  · intro x63 h63
    have h63 : Sl (encS encP) TT w' x63 B16 := h63
    refine ask_do rfl fun K hK => ?_
    go_simp
    exact hK _ _ rfl h63 (World.grownBy.refl _ none)
  -- op 11 (slot 12): assign
  refine MonoR.step (Pv.eq (.int .i64 0)) [(7, 64)] (by kernel_rfl) (fun w' hw' => ?_) ?_
  · rintro _ rfl
    refine ask_do rfl fun K hK => ?_
    go_simp
    exact hK _ _ rfl rfl (World.grownBy.refl _ none)
  
  intro w10 hw10
  intro z0 k0 z1 k1 z2 k2 z3 k3 z4 k4 z5 k5 z6 k6 z7 k7 z8 k8 z9 k9 z10 k10 z11 k11
  refine wpList_nil ?_
  simp only [Act.put, List.setIfInBounds_toArray, List.set_cons_zero, List.set_cons_succ]
  have e11 : z11 = .int .i64 0 := k11
  subst e11
  have HG10 : Hid (w2.grownBy w10 none) := Lib.hid (HG9.out.trans (HD9.out.trans hw10))
  have h8 : Sl (encS (encS encU)) TT w10 z8 [[[0, 0], [0, 0]], [[0, 0], [0, 0]]] := by rw [← m16_eq]; exact k8
  have h9 : Sl (encS encP) TT w10 z9 A16 := k9
  have h10 : Sl (encS encP) TT w10 z10 [[(0, 0)], [(0, 0)]] := by rw [← b16_eq]; exact k10
  obtain ⟨A9, c9, e9, hle9, _⟩ := h9.form
  rw [a16_len] at e9 hle9
  obtain ⟨gm, om, cm, um, em, _, _, hcm, hm⟩ := h8.atS (k := 1) (by decide)
  have em : z8 = .slice (some ⟨gm, om, none⟩) 2 cm := em
  have hm : Sl (encS encU) TT w10 um [[0, 0], [0, 0]] := hm
  obtain ⟨gn, on, cn, un, en, _, _, hcn, hn⟩ := hm.atS (k := 1) (by decide)
  have en : um = .slice (some ⟨gn, on, none⟩) 2 cn := en
  have hn : Sl encU TT w10 un [0, 0] := hn
  obtain ⟨An, cn2, en2, _, _⟩ := hn.form
  have en2 : un = .slice An 2 cn2 := en2
  obtain ⟨gb, ob, cb, ub, eb, _, _, hcb, hb⟩ := h10.atS (k := 1) (by decide)
  have eb : z10 = .slice (some ⟨gb, ob, none⟩) 2 cb := eb
  have hb : Sl encP TT w10 ub [(0, 0)] := hb
  obtain ⟨Ab, cb2, eb2, _, _⟩ := hb.form
  have eb2 : ub = .slice Ab 1 cb2 := eb2
  subst e9 em en en2 eb eb2
  clear hw10 HLD HD9 k0 k1 k2 k3 k4 k5 k6 k7 k8 k9 k10 h8 h9 h10 hm hn hb
  go_wp2_with fail
  go_ret
  exact ⟨rfl, HG2.out.trans HG10.out⟩
end Go.Proofs.YthicondcjeipfaaGreatDoor

namespace Go.Proofs.YthicondcjeipfaaGreatDoor
open Go.RowKit

end Go.Proofs.YthicondcjeipfaaGreatDoor

namespace Go.Proofs.YthicondcjeipfaaGreatDoor
open Go Go.RowKit

end Go.Proofs.YthicondcjeipfaaGreatDoor

namespace Go.Proofs.YthicondcjeipfaaGreatDoor
open Go Go.RowKit Go.Shelf

theorem dvalue_any (x : Int × Int) (w : World) :
    Calls Tryz.prog 39 #[.agg #[.int .u64 x.1, .int .u64 x.2]] w fun e w' => e = .returned (.int .u64 x.1) ∧ w.grownBy w' none := by
  obtain ⟨a, b⟩ := x
  go_enter Tryz.func39, Tryz.ntmps39
  go_wp2
  go_ret
  exact ⟨rfl, World.grownBy_alloc w _ none⟩
set_option maxHeartbeats 1000000 in
theorem each_dvalue_any (v : Value) (l : List (Int × Int)) (X : Nat → Prop) (w : World) (h : Sl encP X w v l) (hb : l.length ≤ 1000) :
    Calls Tryz.prog 38 #[v, .func (.func 39) #[] #[]] w (Gives encU (fun g => w.heap.size ≤ g) w (l.map (·.1))) := by
  have H := Lib.hid h
  have HB := Lib.hid hb
  obtain ⟨A, c, rfl, hc1, hc2⟩ := h.form
  clear h hb
  go_enter Tryz.func38, Tryz.ntmps38
  go_wp2_with fail
  go_loopg [5, 10] l.length (fun g s5 s10 wx => ∃ j : Nat, j + g = l.length ∧ s10 = .int .i64 j ∧ Hid (Acc encU w.heap.size 22 (fun g => w.heap.size ≤ g) wx s5 ((l.take j).map (·.1)) ∧ w.grownBy wx none))
  case atStart => exact ⟨0, by omega, rfl, Lib.hid ⟨Acc.nil _ _ _ _ _, World.grownBy.refl _ none⟩⟩
  case round =>
    obtain ⟨j, hj, rfl, HX⟩ := hrel
    cases gk with
    | zero =>
      obtain rfl : j = l.length := by omega
      have HR : Hid (Sl encU (fun g => w.heap.size ≤ g) wr u5 (l.map (·.1)) ∧ w.grownBy wr none) := Lib.hid ⟨by have := HX.out.1.sl; rwa [List.take_length] at this, HX.out.2⟩
      clear HX
      go_wp2
      go_ret
      exact ⟨_, rfl, HR.out.1, HR.out.2⟩
    | succ m =>
      have hjn : (j : Int) < (l.length : Int) := by omega
      have hjN : j < l.length := by omega
      obtain ⟨hacc, hg⟩ := HX.out
      obtain ⟨g, o, c', e, _, _, hc0, hc1', hu1, hu2⟩ := (H.out.kept hg).atP hjN
      injection e with e1 e2 e3
      subst e1 e3
      have HSN : Hid ((l.take (j + 1)).map (·.1) = (l.take j).map (·.1) ++ [l[j].1]) := Lib.hid (by rw [List.take_succ_eq_append_getElem hjN, List.map_append]; rfl)
      have HU : Hid (U64 l[j].1) := Lib.hid hu1
      have HAC := Lib.hid hacc
      have HG := Lib.hid hg
      have HLB : Hid ((((l.take j).map (·.1)).length + 1) * 8 ≤ 140737488355328) := Lib.hid (by have := HB.out; simp; omega)
      obtain ⟨y, hy⟩ : ∃ y, y = l[j] := ⟨_, rfl⟩
      rw [← hy] at HSN HU hc0 hc1'
      obtain ⟨wa, hwa⟩ : ∃ y2, y2 = wr.alloc (Obj.cells #[.int .u64 y.1, .int .u64 y.2] 38) := ⟨_, rfl⟩
      have HGA : Hid (wr.grownBy wa none) := Lib.hid (by rw [hwa]; exact World.grownBy_alloc _ _ none)
      have hbx : Bk wa wr.heap.size 38 #[.int .u64 y.1, .int .u64 y.2] := by rw [hwa]; exact Bk.new _ _ _
      have HC := Lib.hid (dvalue_any y wa)
      obtain ⟨ya, yb⟩ := y
      simp only at hc0 hc1' HC HSN HU hwa hbx
      have d0 := hbx.cell 0
      have d1 := hbx.cell 1
      simp at d0 d1
      clear hacc hg HX hu1 hu2 e2 hy hbx
      generalize l.length = n at *
      go_wp2_with fail
      rw [← hwa]
      clear hwa
      refine HC.out.mono ?_
      rintro e w1 ⟨rfl, hg1⟩
      have HG1 : Hid (w.grownBy w1 none) := Lib.hid (HG.out.trans (HGA.out.trans hg1))
      have HAC1 := Lib.hid (HAC.out.kept (HGA.out.trans hg1))
      clear hg1 d0 d1 hc0 hc1'
      go_wp2_with (at_builtin; refine wpList_pushG rfl (.tmp 14) (.tmp 18) rfl (E := encU) (y := ya) el_u64 HG1.out HAC1.out (fun _ h => h) ⟨rfl, HU.out⟩ HLB.out rfl rfl ?_)
      intro v2 w2 hacc2 hg2 hgo
      have HFIN : Hid (Acc encU w.heap.size 22 (fun g => w.heap.size ≤ g) w2 v2 ((l.take (j + 1)).map (·.1)) ∧ w.grownBy w2 none) := Lib.hid ⟨by rw [HSN.out]; simpa using hacc2, hg2⟩
      clear hacc2 hg2 hgo
      go_wp2_with fail
      go_roundg m
      case measure => omega
      case rel => exact ⟨j + 1, by omega, by go_num, HFIN⟩
theorem dblinder_any (x : Int × Int) (w : World) :
    Calls Tryz.prog 40 #[.agg #[.int .u64 x.1, .int .u64 x.2]] w fun e w' => e = .returned (.int .u64 x.2) ∧ w.grownBy w' none := by
  obtain ⟨a, b⟩ := x
  go_enter Tryz.func40, Tryz.ntmps40
  go_wp2
  go_ret
  exact ⟨rfl, World.grownBy_alloc w _ none⟩
set_option maxHeartbeats 1000000 in
theorem each_dblinder_any (v : Value) (l : List (Int × Int)) (X : Nat → Prop) (w : World) (h : Sl encP X w v l) (hb : l.length ≤ 1000) :
    Calls Tryz.prog 38 #[v, .func (.func 40) #[] #[]] w (Gives encU (fun g => w.heap.size ≤ g) w (l.map (·.2))) := by
  have H := Lib.hid h
  have HB := Lib.hid hb
  obtain ⟨A, c, rfl, hc1, hc2⟩ := h.form
  clear h hb
  go_enter Tryz.func38, Tryz.ntmps38
  go_wp2_with fail
  go_loopg [5, 10] l.length (fun g s5 s10 wx => ∃ j : Nat, j + g = l.length ∧ s10 = .int .i64 j ∧ Hid (Acc encU w.heap.size 22 (fun g => w.heap.size ≤ g) wx s5 ((l.take j).map (·.2)) ∧ w.grownBy wx none))
  case atStart => exact ⟨0, by omega, rfl, Lib.hid ⟨Acc.nil _ _ _ _ _, World.grownBy.refl _ none⟩⟩
  case round =>
    obtain ⟨j, hj, rfl, HX⟩ := hrel
    cases gk with
    | zero =>
      obtain rfl : j = l.length := by omega
      have HR : Hid (Sl encU (fun g => w.heap.size ≤ g) wr u5 (l.map (·.2)) ∧ w.grownBy wr none) := Lib.hid ⟨by have := HX.out.1.sl; rwa [List.take_length] at this, HX.out.2⟩
      clear HX
      go_wp2
      go_ret
      exact ⟨_, rfl, HR.out.1, HR.out.2⟩
    | succ m =>
      have hjn : (j : Int) < (l.length : Int) := by omega
      have hjN : j < l.length := by omega
      obtain ⟨hacc, hg⟩ := HX.out
      obtain ⟨g, o, c', e, _, _, hc0, hc1', hu1, hu2⟩ := (H.out.kept hg).atP hjN
      injection e with e1 e2 e3
      subst e1 e3
      have HSN : Hid ((l.take (j + 1)).map (·.2) = (l.take j).map (·.2) ++ [l[j].2]) := Lib.hid (by rw [List.take_succ_eq_append_getElem hjN, List.map_append]; rfl)
      have HU : Hid (U64 l[j].2) := Lib.hid hu2
      have HAC := Lib.hid hacc
      have HG := Lib.hid hg
      have HLB : Hid ((((l.take j).map (·.2)).length + 1) * 8 ≤ 140737488355328) := Lib.hid (by have := HB.out; simp; omega)
      obtain ⟨y, hy⟩ : ∃ y, y = l[j] := ⟨_, rfl⟩
      rw [← hy] at HSN HU hc0 hc1'
      obtain ⟨wa, hwa⟩ : ∃ y2, y2 = wr.alloc (Obj.cells #[.int .u64 y.1, .int .u64 y.2] 38) := ⟨_, rfl⟩
      have HGA : Hid (wr.grownBy wa none) := Lib.hid (by rw [hwa]; exact World.grownBy_alloc _ _ none)
      have hbx : Bk wa wr.heap.size 38 #[.int .u64 y.1, .int .u64 y.2] := by rw [hwa]; exact Bk.new _ _ _
      have HC := Lib.hid (dblinder_any y wa)
      obtain ⟨ya, yb⟩ := y
      simp only at hc0 hc1' HC HSN HU hwa hbx
      have d0 := hbx.cell 0
      have d1 := hbx.cell 1
      simp at d0 d1
      clear hacc hg HX hu1 hu2 e2 hy hbx
      generalize l.length = n at *
      go_wp2_with fail
      rw [← hwa]
      clear hwa
      refine HC.out.mono ?_
      rintro e w1 ⟨rfl, hg1⟩
      have HG1 : Hid (w.grownBy w1 none) := Lib.hid (HG.out.trans (HGA.out.trans hg1))
      have HAC1 := Lib.hid (HAC.out.kept (HGA.out.trans hg1))
      clear hg1 d0 d1 hc0 hc1'
      go_wp2_with (at_builtin; refine wpList_pushG rfl (.tmp 14) (.tmp 18) rfl (E := encU) (y := yb) el_u64 HG1.out HAC1.out (fun _ h => h) ⟨rfl, HU.out⟩ HLB.out rfl rfl ?_)
      intro v2 w2 hacc2 hg2 hgo
      have HFIN : Hid (Acc encU w.heap.size 22 (fun g => w.heap.size ≤ g) w2 v2 ((l.take (j + 1)).map (·.2)) ∧ w.grownBy w2 none) := Lib.hid ⟨by rw [HSN.out]; simpa using hacc2, hg2⟩
      clear hacc2 hg2 hgo
      go_wp2_with fail
      go_roundg m
      case measure => omega
      case rel => exact ⟨j + 1, by omega, by go_num, HFIN⟩
/-- What a list of coefficients tells at a place. -/
def atP (q x : Int) (c : List (Int × Int)) : Int × Int := (evalI q (c.map (·.1)) x, evalI q (c.map (·.2)) x)
theorem results_pair {fn : Func} {W : World} {B4 : Nat} {a b : Value} (h : fn.results = #[.cell 4 38]) (tmps : Array Value) (h4 : tmps.getD 4 undef = .pointer (some ⟨B4, 0, none⟩)) (hb4 : Bk W B4 38 #[a, b]) : (results fn tmps).run Tryz.prog W = .ok (.agg #[a, b]) W := by
  have r1 := run_loadVar_row (P := Tryz.prog) W B4 38 38 #[a, b] (0, 0) _ hb4 Tryz.underlying38 rfl (by kernel_rfl)
  have h4' : tmps[4]?.getD undef = .pointer (some ⟨B4, 0, none⟩) := by simpa using h4
  simp [results, h, h4', asAddr, r1]
set_option maxRecDepth 100000 in
set_option maxHeartbeats 2000000 in
theorem atOne_any (v : Value) (c : List (Int × Int)) (x q : Int) (Bx Bq : Nat) (X : Nat → Prop) (w : World) (h : Sl encP X w v c) (hx : U64 x) (hb : c.length ≤ 1000) (bx : Bk w Bx 22 #[.int .u64 x]) (bq : Bk w Bq 22 #[.int .u64 q]) :
    Calls Tryz.prog 36 #[v, .pointer (some ⟨Bx, 0, none⟩), .pointer (some ⟨Bq, 0, none⟩)] w fun e w' => e = .returned (.agg #[.int .u64 (atP q x c).1, .int .u64 (atP q x c).2]) ∧ w.grownBy w' none := by
  have H := Lib.hid h
  have HU := Lib.hid hx
  have HBX := Lib.hid bx
  have HBQ := Lib.hid bq
  have HB := Lib.hid hb
  obtain ⟨A, cc, rfl, _, _⟩ := h.form
  obtain ⟨w0, hw0⟩ : ∃ y, y = w.alloc (Obj.cells #[.int .u64 0, .int .u64 0] 38) := ⟨_, rfl⟩
  obtain ⟨B0, hB0⟩ : ∃ y, y = w.heap.size := ⟨_, rfl⟩
  have HG0 : Hid (w.grownBy w0 none) := Lib.hid (by rw [hw0]; exact World.grownBy_alloc _ _ none)
  have HBR : Hid (Bk w0 B0 38 #[.int .u64 0, .int .u64 0]) := Lib.hid (by rw [hw0, hB0]; exact Bk.new _ _ _)
  have HBE : Hid (w.heap.size ≤ B0) := Lib.hid (by rw [hB0]; exact Nat.le_refl _)
  clear h hx bx bq hb
  go_enter Tryz.func36, Tryz.ntmps36
  go_upto_region 1 with (fail)
  rw [← hw0, ← hB0]
  clear hw0 hB0
  have HD : Hid (w0.grownBy w0.drew none) := Lib.hid (grown_drewN' _ 1)
  have HLD : Hid (∀ W, w0.drew.grownBy W none → W.cell? ⟨Bx, 0, none⟩ = some (.int .u64 x) ∧ W.cell? ⟨Bq, 0, none⟩ = some (.int .u64 q)) := Lib.hid (fun W hg => by
    have h := HG0.out.trans (HD.out.trans hg)
    exact ⟨by simpa using (HBX.out.grown h (by simp)).cell 0, by simpa using (HBQ.out.grown h (by simp)).cell 0⟩)
  have HEV : Hid (∀ W, w0.drew.grownBy W none → Calls Tryz.prog 38 #[.slice A c.length cc, .func (.func 39) #[] #[]] W (Gives encU (fun g => W.heap.size ≤ g) W (c.map (·.1)))) := Lib.hid (fun W hg => each_dvalue_any _ c X W (H.out.kept (HG0.out.trans (HD.out.trans hg))) HB.out)
  have HEB : Hid (∀ W, w0.drew.grownBy W none → Calls Tryz.prog 38 #[.slice A c.length cc, .func (.func 40) #[] #[]] W (Gives encU (fun g => W.heap.size ≤ g) W (c.map (·.2)))) := Lib.hid (fun W hg => each_dblinder_any _ c X W (H.out.kept (HG0.out.trans (HD.out.trans hg))) HB.out)
  refine wp_region_mono 11 (by kernel_rfl) (by kernel_rfl) ?_
  -- op 0 (slot 5): move
  refine MonoR.step (Pv.eq (.slice A c.length cc)) [] (by kernel_rfl) (fun w' hw' => ?_) ?_
  · refine ask_do rfl fun K hK => ?_
    go_simp
    exact hK _ _ rfl rfl (World.grownBy.refl _ none)
  -- op 1 (slot 6): call
  refine MonoR.step (Pv.sl encU TT (c.map (·.1))) [(0, 5)] (by kernel_rfl) (fun w' hw' => ?_) ?_
  · rintro _ rfl
    refine ask_do rfl fun K hK => ?_
    go_simp
    refine (HEV.out w' hw').mono ?_
    rintro e w3 ⟨v3, rfl, hs3, hg3⟩
    exact hK _ _ rfl (hs3.more fun _ _ _ => trivial) hg3
  -- op 2 (slot 7): load
  refine MonoR.step (Pv.eq (.int .u64 x)) [] (by kernel_rfl) (fun w' hw' => ?_) ?_
  · refine ask_do rfl fun K hK => ?_
    obtain ⟨q0, q1⟩ := HLD.out w' hw'
    go_simp
    exact hK _ _ rfl rfl (World.grownBy.refl _ none)
  -- op 3 (slot 8): load
  refine MonoR.step (Pv.eq (.int .u64 q)) [] (by kernel_rfl) (fun w' hw' => ?_) ?_
  · refine ask_do rfl fun K hK => ?_
    obtain ⟨q0, q1⟩ := HLD.out w' hw'
    go_simp
    exact hK _ _ rfl rfl (World.grownBy.refl _ none)
  -- op 4 (slot 9): call
  refine MonoR.step (Pv.eq (.int .u64 (evalI q (c.map (·.1)) x))) [(1, 6), (2, 7), (3, 8)] (by kernel_rfl) (fun w' hw' => ?_) ?_
  · intro x6 h6
    have h6 : Sl encU TT w' x6 (c.map (·.1)) := h6
    rintro _ rfl
    rintro _ rfl
    refine ask_do rfl fun K hK => ?_
    go_simp
    refine (eval_any x6 (c.map (·.1)) x q TT w' h6 HU.out).mono ?_
    rintro e w3 ⟨rfl, hg3⟩
    exact hK _ _ rfl rfl hg3
  -- op 5 (slot 10): move
  refine MonoR.step (Pv.eq (.slice A c.length cc)) [] (by kernel_rfl) (fun w' hw' => ?_) ?_
  · refine ask_do rfl fun K hK => ?_
    go_simp
    exact hK _ _ rfl rfl (World.grownBy.refl _ none)
  -- op 6 (slot 11): call
  refine MonoR.step (Pv.sl encU TT (c.map (·.2))) [(5, 10)] (by kernel_rfl) (fun w' hw' => ?_) ?_
  · rintro _ rfl
    refine ask_do rfl fun K hK => ?_
    go_simp
    refine (HEB.out w' hw').mono ?_
    rintro e w3 ⟨v3, rfl, hs3, hg3⟩
    exact hK _ _ rfl (hs3.more fun _ _ _ => trivial) hg3
  -- op 7 (slot 12): load
  refine MonoR.step (Pv.eq (.int .u64 x)) [] (by kernel_rfl) (fun w' hw' => ?_) ?_
  · refine ask_do rfl fun K hK => ?_
    obtain ⟨q0, q1⟩ := HLD.out w' hw'
    go_simp
    exact hK _ _ rfl rfl (World.grownBy.refl _ none)
  -- op 8 (slot 13): load
  refine MonoR.step (Pv.eq (.int .u64 q)) [] (by kernel_rfl) (fun w' hw' => ?_) ?_
  · refine ask_do rfl fun K hK => ?_
    obtain ⟨q0, q1⟩ := HLD.out w' hw'
    go_simp
    exact hK _ _ rfl rfl (World.grownBy.refl _ none)
  -- op 9 (slot 14): call
  refine MonoR.step (Pv.eq (.int .u64 (evalI q (c.map (·.2)) x))) [(6, 11), (7, 12), (8, 13)] (by kernel_rfl) (fun w' hw' => ?_) ?_
  · intro x11 h11
    have h11 : Sl encU TT w' x11 (c.map (·.2)) := h11
    rintro _ rfl
    rintro _ rfl
    refine ask_do rfl fun K hK => ?_
    go_simp
    refine (eval_any x11 (c.map (·.2)) x q TT w' h11 HU.out).mono ?_
    rintro e w3 ⟨rfl, hg3⟩
    exact hK _ _ rfl rfl hg3
  -- op 10 (slot 15): build
  refine MonoR.step (Pv.eq (.agg #[.int .u64 (evalI q (c.map (·.1)) x), .int .u64 (evalI q (c.map (·.2)) x)])) [(4, 9), (9, 14)] (by kernel_rfl) (fun w' hw' => ?_) ?_
  · rintro _ rfl
    rintro _ rfl
    refine ask_do rfl fun K hK => ?_
    go_simp
    exact hK _ _ rfl rfl (World.grownBy.refl _ none)
  

  intro w3 hw3
  intro y0 k0 y1 k1 y2 k2 y3 k3 y4 k4 y5 k5 y6 k6 y7 k7 y8 k8 y9 k9 y10 k10
  show wpList Tryz.prog _ _ _ _ w3
  simp only [Act.put, List.setIfInBounds_toArray, List.set_cons_zero, List.set_cons_succ]
  have e10 : y10 = .agg #[.int .u64 (evalI q (c.map (·.1)) x), .int .u64 (evalI q (c.map (·.2)) x)] := k10
  subst e10
  have hb3 : Bk w3 B0 38 #[.int .u64 0, .int .u64 0] := HBR.out.grown (HD.out.trans hw3) (by simp)
  have d0 := hb3.cell 0
  have d1 := hb3.cell 1
  have f3 := hb3.free
  simp at d0 d1
  have HR : Hid (Bk ((w3.setCell ⟨B0, 0, none⟩ (.int .u64 (evalI q (c.map (·.1)) x))).setCell ⟨B0, 1, none⟩ (.int .u64 (evalI q (c.map (·.2)) x))) B0 38 #[.int .u64 (evalI q (c.map (·.1)) x), .int .u64 (evalI q (c.map (·.2)) x)]) := Lib.hid ((hb3.set 0 _).set 1 _)
  have HGF : Hid (w.grownBy ((w3.setCell ⟨B0, 0, none⟩ (.int .u64 (evalI q (c.map (·.1)) x))).setCell ⟨B0, 1, none⟩ (.int .u64 (evalI q (c.map (·.2)) x))) none) := Lib.hid (grownSetUp (grownSetUp (HG0.out.trans (HD.out.trans hw3)) 0 _ HBE.out) 1 _ HBE.out)
  clear hw3 hb3 k0 k1 k2 k3 k4 k5 k6 k7 k8 k9 k10 HLD HEV HEB
  go_wp2_with fail
  exact ⟨rfl, _, results_pair rfl _ rfl HR.out, rfl, HGF.out⟩
set_option maxRecDepth 100000 in
set_option maxHeartbeats 2000000 in
theorem eachAt_any (v : Value) (L : List (List (Int × Int))) (x q : Int) (Bx Bq : Nat) (X : Nat → Prop) (w : World) (h : Sl (encS encP) X w v L) (hx : U64 x) (hb : L.length ≤ 1000) (hb2 : ∀ c ∈ L, c.length ≤ 1000) (bx : Bk w Bx 22 #[.int .u64 x]) (bq : Bk w Bq 22 #[.int .u64 q]) :
    Calls Tryz.prog 35 #[v, .func (.func 36) #[] #[.pointer (some ⟨Bx, 0, none⟩), .pointer (some ⟨Bq, 0, none⟩)]] w (Gives encP (fun g => w.heap.size ≤ g) w (L.map (atP q x))) := by
  have H := Lib.hid h
  have HB := Lib.hid hb
  have HB2 := Lib.hid hb2
  have HU := Lib.hid hx
  have HBX := Lib.hid bx
  have HBQ := Lib.hid bq
  obtain ⟨A, c, rfl, hc1, hc2⟩ := h.form
  clear h hb hb2 hx bx bq
  go_enter Tryz.func35, Tryz.ntmps35
  go_wp2_with fail
  go_loopg [5, 10] L.length (fun g s5 s10 wx => ∃ j : Nat, j + g = L.length ∧ s10 = .int .i64 j ∧ Hid (Acc encP w.heap.size 38 (fun g => w.heap.size ≤ g) wx s5 ((L.take j).map (atP q x)) ∧ w.grownBy wx none))
  case atStart => exact ⟨0, by omega, rfl, Lib.hid ⟨Acc.nil _ _ _ _ _, World.grownBy.refl _ none⟩⟩
  case round =>
    obtain ⟨j, hj, rfl, HX⟩ := hrel
    cases gk with
    | zero =>
      obtain rfl : j = L.length := by omega
      have HR : Hid (Sl encP (fun g => w.heap.size ≤ g) wr u5 (L.map (atP q x)) ∧ w.grownBy wr none) := Lib.hid ⟨by have := HX.out.1.sl; rwa [List.take_length] at this, HX.out.2⟩
      clear HX
      go_wp2
      go_ret
      exact ⟨_, rfl, HR.out.1, HR.out.2⟩
    | succ m =>
      have hjn : (j : Int) < (L.length : Int) := by omega
      have hjN : j < L.length := by omega
      obtain ⟨hacc, hg⟩ := HX.out
      obtain ⟨g, o, c', u, e, _, _, hcu, hu⟩ := (H.out.kept hg).atS hjN
      injection e with e1 e2 e3
      subst e1 e3
      have HSN : Hid ((L.take (j + 1)).map (atP q x) = (L.take j).map (atP q x) ++ [atP q x L[j]]) := Lib.hid (by rw [List.take_succ_eq_append_getElem hjN, List.map_append]; rfl)
      have HC := Lib.hid (atOne_any u L[j] x q Bx Bq _ wr hu HU.out (HB2.out _ (List.getElem_mem hjN)) (HBX.out.grown hg (by simp)) (HBQ.out.grown hg (by simp)))
      have HAC := Lib.hid hacc
      have HG := Lib.hid hg
      have HLB : Hid ((((L.take j).map (atP q x)).length + 1) * 16 ≤ 140737488355328) := Lib.hid (by have := HB.out; simp; omega)
      have HU2 : Hid (U64 (atP q x L[j]).1 ∧ U64 (atP q x L[j]).2) := Lib.hid ⟨evalI_U64 _ _ _, evalI_U64 _ _ _⟩
      obtain ⟨A1, n1, c1, e1⟩ := hu.shape
      subst e1
      obtain ⟨y, hy⟩ : ∃ y, y = atP q x L[j] := ⟨_, rfl⟩
      rw [← hy] at HSN HC HU2
      obtain ⟨ya, yb⟩ := y
      clear hacc hg HX hu e2 hy
      generalize hLn : L.length = n at *
      clear hLn
      go_wp2_with fail
      refine HC.out.mono ?_
      rintro e w1 ⟨rfl, hg1⟩
      have HG1 : Hid (w.grownBy w1 none) := Lib.hid (HG.out.trans hg1)
      have HAC1 := Lib.hid (HAC.out.kept hg1)
      clear hg1 hcu
      go_wp2_with (at_builtin; refine wpList_pushG rfl (.tmp 14) (.tmp 18) rfl (E := encP) (y := (ya, yb)) el_pair HG1.out HAC1.out (fun _ h => h) ⟨rfl, HU2.out.1, HU2.out.2⟩ HLB.out rfl rfl ?_)
      intro v2 w2 hacc2 hg2 hgo
      have HFIN : Hid (Acc encP w.heap.size 38 (fun g => w.heap.size ≤ g) w2 v2 ((L.take (j + 1)).map (atP q x)) ∧ w.grownBy w2 none) := Lib.hid ⟨by rw [HSN.out]; simpa using hacc2, hg2⟩
      clear hacc2 hg2 hgo
      go_wp2_with fail
      go_roundg m
      case measure => omega
      case rel => exact ⟨j + 1, by omega, by go_num, HFIN⟩
theorem dat_any (v : Value) (L : List (List (Int × Int))) (x q : Int) (X : Nat → Prop) (w : World) (h : Sl (encS encP) X w v L) (hx : U64 x) (hb : L.length ≤ 1000) (hb2 : ∀ c ∈ L, c.length ≤ 1000) :
    Calls Tryz.prog 13 #[v, .int .u64 x, .int .u64 q] w (Gives encP (fun g => w.heap.size ≤ g) w (L.map (atP q x))) := by
  obtain ⟨w0, hw0⟩ : ∃ y, y = (w.alloc (Obj.cells #[.int .u64 x] 22)).alloc (Obj.cells #[.int .u64 q] 22) := ⟨_, rfl⟩
  have HG0 : Hid (w.grownBy w0 none) := Lib.hid (by rw [hw0]; exact grown_two)
  have HB1 : Hid (Bk w0 w.heap.size 22 #[.int .u64 x]) := Lib.hid (by rw [hw0]; exact (Bk.new w _ _).alloc _)
  have HB2 : Hid (Bk w0 (w.heap.size + 1) 22 #[.int .u64 q]) := Lib.hid (by
    rw [hw0]
    have h := Bk.new (w.alloc (Obj.cells #[.int .u64 x] 22)) 22 #[.int .u64 q]
    rw [World.size_alloc] at h
    exact h)
  have HC := Lib.hid (eachAt_any v L x q w.heap.size (w.heap.size + 1) X w0 (h.kept HG0.out) hx hb hb2 HB1.out HB2.out)
  obtain ⟨A, c, rfl, _, _⟩ := h.form
  clear h
  go_enter Tryz.func13, Tryz.ntmps13
  go_wp2_with fail
  rw [← hw0]
  clear hw0
  refine HC.out.mono ?_
  rintro e w1 ⟨v1, rfl, hs1, hg1⟩
  have HR : Hid (Sl encP (fun g => w.heap.size ≤ g) w1 v1 (L.map (atP q x)) ∧ w.grownBy w1 none) := Lib.hid ⟨hs1.more fun g _ h => Nat.le_trans HG0.out.size h, HG0.out.trans hg1⟩
  clear hs1 hg1
  go_wp2
  go_ret
  exact ⟨_, rfl, HR.out.1, HR.out.2⟩
end Go.Proofs.YthicondcjeipfaaGreatDoor

namespace Go.Proofs.YthicondcjeipfaaGreatDoor
open Go.RowKit

theorem turnedI_length (p : Par) (l : List (List Int)) : (turnedI p l).length = wideI l := by simp [turnedI]
theorem shareI_length (p : Par) (l : List (List Int)) (x : Int) : (shareI p l x).length = l.length := by simp [shareI]
set_option maxRecDepth 100000 in
set_option maxHeartbeats 1000000 in
theorem rowComs_any (p : Par) (v : Value) (m : List (List (List Int))) (x : Int) (X : Nat → Prop) (w : World) (h : Sl (encS (encS encU)) X w v m) (hx : U64 x) (hb : m.length ≤ 100000) (hb2 : ∀ l ∈ m, l.length ≤ 100000 ∧ ∀ c ∈ l, c.length ≤ 100000) :
    Calls Tryz.prog 33 #[p.v, v, .int .u64 x] w (Gives (encS encU) (fun g => w.heap.size ≤ g) w (rowComsI p m x)) := by
  have H := Lib.hid h
  have HI := Lib.hid hx
  have HB2 := Lib.hid hb2
  obtain ⟨A, c, rfl, hc1, hc2⟩ := h.form
  have HST : Hid (Acc (encS encU) w.heap.size 29 (fun g => w.heap.size ≤ g) (w.alloc (Obj.cells p.cells 24)) (.slice none 0 0) ((m.take 0).map fun l => shareI p (turnedI p l) x) ∧ w.grownBy (w.alloc (Obj.cells p.cells 24)) none ∧ Bk (w.alloc (Obj.cells p.cells 24)) w.heap.size 24 p.cells) := Lib.hid ⟨Acc.nil _ _ _ _ _, World.grownBy_alloc w _ none, Bk.new w _ _⟩
  clear h hx hb2
  go_enter Tryz.func33, Tryz.ntmps33
  go_wp2_with fail
  go_loopg [7, 12] m.length (fun g s7 s12 wx => ∃ j : Nat, j + g = m.length ∧ s12 = .int .i64 j ∧ Hid (Acc (encS encU) w.heap.size 29 (fun g => w.heap.size ≤ g) wx s7 ((m.take j).map fun l => shareI p (turnedI p l) x) ∧ w.grownBy wx none ∧ Bk wx w.heap.size 24 p.cells))
  case atStart => exact ⟨0, by omega, rfl, HST⟩
  case round =>
    obtain ⟨j, hj, rfl, HX⟩ := hrel
    cases gk with
    | zero =>
      obtain rfl : j = m.length := by omega
      have HR : Hid (Sl (encS encU) (fun g => w.heap.size ≤ g) wr u7 (rowComsI p m x) ∧ w.grownBy wr none) := Lib.hid ⟨by have := HX.out.1.sl; rwa [List.take_length] at this, HX.out.2.1⟩
      clear HX HST
      go_wp2
      go_ret
      exact ⟨_, rfl, HR.out.1, HR.out.2⟩
    | succ n =>
      have hjn : (j : Int) < (m.length : Int) := by omega
      have hjN : j < m.length := by omega
      obtain ⟨hacc, hg, hbp⟩ := HX.out
      obtain ⟨g, o, c', u, e, _, _, hcu, hsu⟩ := (H.out.kept hg).atS hjN
      injection e with e1 e2 e3
      subst e1 e3
      obtain ⟨A1, c1, e1, _, _⟩ := hsu.form
      subst e1
      have HSN := Lib.hid (map_take_snoc' (fun l => shareI p (turnedI p l) x) m j hjN)
      obtain ⟨hz1, hz2⟩ := HB2.out m[j] (List.getElem_mem hjN)
      have HT := Lib.hid (fun (w' : World) (hw : wr.grownBy w' none) => turned_any p _ m[j] X w' (hsu.kept hw) hz1 hz2)
      have HWD := Lib.hid (wide_le m[j] 100000 hz2)
      have HF := Lib.hid (fun (v : Value) (Y : Nat → Prop) (w' : World) (hv : Sl (encS encU) Y w' v (turnedI p m[j])) => share_any p v _ x Y w' hv HI.out (by rw [turnedI_length]; exact HWD.out))
      have HSL : Hid ((shareI p (turnedI p m[j]) x).length = wideI m[j]) := Lib.hid (by rw [shareI_length, turnedI_length])
      have HAC : Hid (Acc (encS encU) w.heap.size 29 (fun g => w.heap.size ≤ g) wr.drew u7 ((m.take j).map fun l => shareI p (turnedI p l) x)) := Lib.hid (hacc.kept (grownBy_drewN (World.grownBy.refl wr none) 1))
      have HG : Hid (w.grownBy wr.drew none) := Lib.hid (grownBy_drewN hg 1)
      have HGd : Hid (wr.grownBy wr.drew none) := Lib.hid (grownBy_drewN (World.grownBy.refl wr none) 1)
      have HBp : Hid (Bk wr.drew w.heap.size 24 p.cells) := Lib.hid (hbp.drewN 1)
      have hp := hbp.prule
      have hlt := hbp.lt
      have HLB : Hid ((((m.take j).map fun l => shareI p (turnedI p l) x).length + 1) * 24 ≤ 140737488355328) := Lib.hid (by simp; omega)
      clear hacc hg hbp hsu e2 HX HST hz1 hz2
      generalize hy : m[j] = z at HSN HF hcu HSL HT HWD
      clear hy
      generalize z.length = n1 at *
      go_wp2_with fail
      go_region_held3 (fun w' => ∀ o, w'.cell? ⟨w.heap.size, o, none⟩ = (#[.int .u64 p.P, .int .u64 p.Q, .int .u64 p.G, .int .u64 p.H, .int .i64 p.Nodes, .int .i64 p.N, .int .i64 p.T, .int .i64 p.K, .int .i64 p.D, .int .i64 p.R, .int .i64 p.M, .int .i64 p.X] : Array Value)[o]?) (first | assumption | exact rule_alloc (by assumption) (by assumption) _ | go_keep) (first
        | (go_at_call 77; (with_reducible refine (HT.out _ HGd.out).mono ?_); rintro e' w1 ⟨v1, rfl, hs1, hg1⟩; have HV1 := Lib.hid hs1; have HG1 := Lib.hid (HG.out.trans hg1); have HA1 := Lib.hid (HAC.out.kept hg1); have HB1 := Lib.hid (HBp.out.grown hg1 (by simp)); have hp1 := HB1.out.prule; have hl1 := HB1.out.lt; clear hs1 hg1)
        | (go_at_call 76; (with_reducible refine (HF.out _ _ _ HV1.out).mono ?_); rintro e' w2 ⟨v2, rfl, hs2, hg2⟩; obtain ⟨A2, c2, e2, _, _⟩ := hs2.form; rw [HSL.out] at e2; subst e2; have HG2 := Lib.hid (HG1.out.trans hg2); have HA2 := Lib.hid (HA1.out.kept hg2); have HB2 := Lib.hid (HB1.out.grown hg2 (by simp)); have hp2 := HB2.out.prule; have hl2 := HB2.out.lt; have HREP : Hid (Enc.rep (encS encU) (fun g => w.heap.size ≤ g ∧ some g ≠ u7.ownBlock) w2 [.slice A2 (wideI z) c2] (shareI p (turnedI p z) x)) := Lib.hid ⟨_, rfl, hs2.fresh HG1.out HA1.out⟩; clear hs2 hg2)
        | (refine step_pushG rfl (.tmp 16) (.tmp 23) rfl (E := encS encU) (y := shareI p (turnedI p z) x) el_nums HG2.out HA2.out (fun _ h => h) HREP.out HLB.out rfl rfl ?_; intro v3 w3 hacc3 hg3 hgo3; have HA3 := Lib.hid hacc3; have HG3 := Lib.hid hg3; have HB3 := Lib.hid (HB2.out.grown hgo3 (fun e => HA2.out.ne_bk HB2.out (by decide) e.symm)); have hp3 := HB3.out.prule; clear hacc3 hg3 hgo3))
      have HFIN : Hid (Acc (encS encU) w.heap.size 29 (fun g => w.heap.size ≤ g) w3 v3 ((m.take (j + 1)).map fun l => shareI p (turnedI p l) x) ∧ w.grownBy w3 none ∧ Bk w3 w.heap.size 24 p.cells) := Lib.hid ⟨by rw [HSN.out]; simpa using HA3.out, HG3.out, HB3.out⟩
      clear HA3 HG3 HB3
      go_wp2_with fail
      go_roundg n
      case measure => omega
      case rel => exact ⟨j + 1, by omega, by go_num, HFIN⟩
set_option maxRecDepth 100000 in
set_option maxHeartbeats 400000 in
theorem sequal_any (v1 v2 : Value) (xs ys : List Int) (X Y : Nat → Prop) (w : World) (h1 : Sl encU X w v1 xs) (h2 : Sl encU Y w v2 ys) :
    Calls Tryz.prog 80 #[v1, v2] w fun e w' => e = .returned (.bool (decide (xs = ys))) ∧ w.grownBy w' none := by
  have H1 := Lib.hid h1
  have H2 := Lib.hid h2
  obtain ⟨A1, c1, rfl, hc1, hc2⟩ := h1.form
  obtain ⟨A2, c2, rfl, hc3, hc4⟩ := h2.form
  clear h1 h2
  by_cases hl : xs.length = ys.length
  · have HLN := Lib.hid hl
    have HST : Hid ((∃ n, w = w.drewN n) ∧ xs.take 0 = ys.take 0) := Lib.hid ⟨⟨0, rfl⟩, rfl⟩
    rw [hl] at H1 hc1 ⊢
    clear hl
    go_enter Tryz.func80, Tryz.ntmps80
    go_wp2_with fail
    go_loopg [13] ys.length (fun g s13 wx => ∃ j : Nat, j + g = ys.length ∧ s13 = .int .i64 j ∧ Hid ((∃ n, wx = w.drewN n) ∧ xs.take j = ys.take j))
    case atStart => exact ⟨0, by omega, rfl, HST⟩
    case round =>
      obtain ⟨j, hj, rfl, HX⟩ := hrel
      obtain ⟨⟨n0, rfl⟩, htk⟩ := HX.out
      cases gk with
      | zero =>
        obtain rfl : j = ys.length := by omega
        have HE : Hid (decide (xs = ys) = true) := Lib.hid (by
          rw [List.take_length, ← HLN.out, List.take_length] at htk
          simpa using htk)
        clear HX HST htk
        go_wp2
        go_ret
        exact ⟨ret_bool HE.out.symm, grown_drewN' w _⟩
      | succ m =>
        have hjn : (j : Int) < (ys.length : Int) := by omega
        have hj0 : (0 : Int) ≤ (j : Int) := by omega
        have hjN : j < ys.length := by omega
        have hjX : j < xs.length := by rw [HLN.out]; exact hjN
        obtain ⟨g1, o1, c1', e1, _, _, a1, u1⟩ := (HLN.out ▸ H1.out : Sl encU X w (.slice A1 xs.length c1) xs).atU hjX
        injection e1 with e11 e12 e13
        subst e11 e13
        obtain ⟨g2, o2, c2', e2, _, _, a2, _⟩ := H2.out.atU hjN
        injection e2 with e21 e22 e23
        subst e21 e23
        have HSX := Lib.hid (List.take_succ_eq_append_getElem hjX)
        have HSY := Lib.hid (List.take_succ_eq_append_getElem hjN)
        have HTK := Lib.hid htk
        by_cases hxy : xs[j] = ys[j]
        · have HNX : Hid (xs.take (j + 1) = ys.take (j + 1)) := Lib.hid (by rw [HSX.out, HSY.out, hxy, HTK.out])
          rw [hxy] at a1
          clear HX HST e12 e22 htk hxy HSX HSY
          generalize ys[j] = y at *
          go_wp2_with fail
          go_quiet (fail)
          go_wp2_with fail
          go_roundg m
          case measure => omega
          case rel => exact ⟨j + 1, by omega, by go_num, Lib.hid ⟨⟨_, rfl⟩, HNX.out⟩⟩
        · have HE : Hid (decide (xs = ys) = false) := Lib.hid (by simp only [decide_eq_false_iff_not]; intro e; apply hxy; subst e; rfl)
          have hd : (xs[j] != ys[j]) = true := by simpa using hxy
          clear HX HST e12 e22 htk hxy HSX HSY
          generalize ys[j] = y at *
          generalize xs[j] = x at *
          go_wp2_with fail
          go_quiet (fail)
          go_wp2
          go_ret
          exact ⟨ret_bool HE.out.symm, (grown_drewN' w _).trans (grown_drewN' _ _)⟩
  · have hd : ((xs.length : Int) != (ys.length : Int)) = true := by simp; omega
    have HE : Hid (decide (xs = ys) = false) := Lib.hid (by simp only [decide_eq_false_iff_not]; intro e; exact hl (by rw [e]))
    clear hl
    go_enter Tryz.func80, Tryz.ntmps80
    go_wp2
    go_ret
    exact ⟨ret_bool HE.out.symm, World.grownBy.refl w none⟩
theorem commit_U64' (p : Par) (x : Int × Int) : U64 (commitI p x) := timesI_U64 _ _
def fitsI (p : Par) (coms : List (List Int)) (i : Int) (l : List (Int × Int)) : Bool := decide (l.map (commitI p) = shareI p coms i)
set_option maxRecDepth 100000 in
set_option maxHeartbeats 1000000 in
theorem fits_any (p : Par) (v1 : Value) (coms : List (List Int)) (i : Int) (v2 : Value) (l : List (Int × Int)) (X Y : Nat → Prop) (w : World) (hp : p.ok) (h1 : Sl (encS encU) X w v1 coms) (hi : U64 i) (h2 : Sl encP Y w v2 l) (hb : coms.length ≤ 100000) (hb2 : l.length ≤ 100000) :
    Calls Tryz.prog 41 #[p.v, v1, .int .u64 i, v2] w fun e w' => e = .returned (.bool (fitsI p coms i l)) ∧ w.grownBy w' none := by
  have HP := Lib.hid hp
  have HSH := Lib.hid (fun (w' : World) (hw : w.grownBy w' none) => share_any p v1 coms i X w' (h1.kept hw) hi hb)
  have H := Lib.hid h2
  obtain ⟨A, c, rfl, hc1, hc2⟩ := h2.form
  have HST : Hid (Acc encU w.heap.size 22 (fun g => w.heap.size ≤ g) (w.alloc (Obj.cells p.cells 24)) (.slice none 0 0) ((l.take 0).map (commitI p)) ∧ w.grownBy (w.alloc (Obj.cells p.cells 24)) none ∧ Bk (w.alloc (Obj.cells p.cells 24)) w.heap.size 24 p.cells) := Lib.hid ⟨Acc.nil _ _ _ _ _, World.grownBy_alloc w _ none, Bk.new w _ _⟩
  clear h1 h2 hi hp hb
  go_enter Tryz.func41, Tryz.ntmps41
  go_wp2_with fail
  go_loopg [9, 14] l.length (fun g s9 s14 wx => ∃ j : Nat, j + g = l.length ∧ s14 = .int .i64 j ∧ Hid (Acc encU w.heap.size 22 (fun g => w.heap.size ≤ g) wx s9 ((l.take j).map (commitI p)) ∧ w.grownBy wx none ∧ Bk wx w.heap.size 24 p.cells))
  case atStart => exact ⟨0, by omega, rfl, HST⟩
  case round =>
    obtain ⟨j, hj, rfl, HX⟩ := hrel
    cases gk with
    | zero =>
      obtain rfl : j = l.length := by omega
      have HS9 : Hid (Sl encU (fun g => w.heap.size ≤ g) wr u9 (l.map (commitI p))) := Lib.hid (by have := HX.out.1.sl; rwa [List.take_length] at this)
      have HG := Lib.hid HX.out.2.1
      have hp := HX.out.2.2.prule
      clear HX HST
      go_wp2_with fail
      refine (HSH.out _ HG.out).mono ?_
      rintro e' w1 ⟨u1, rfl, hs1, hg1⟩
      have HEQ := Lib.hid (sequal_any u9 u1 _ _ _ _ w1 (HS9.out.kept hg1) hs1)
      have HG1 := Lib.hid (HG.out.trans hg1)
      clear hs1 hg1 hp
      go_wp2_with fail
      refine HEQ.out.mono ?_
      rintro e' w2 ⟨rfl, hg2⟩
      have HG2 := Lib.hid (HG1.out.trans hg2)
      clear hg2
      go_wp2
      go_ret
      exact ⟨rfl, HG2.out⟩
    | succ m =>
      have hjn : (j : Int) < (l.length : Int) := by omega
      have hjN : j < l.length := by omega
      obtain ⟨hacc, hg, hbp⟩ := HX.out
      obtain ⟨g, o, c', e, hgl, _, hcu1, hcu2, hu1, hu2⟩ := (H.out.kept hg).atP hjN
      injection e with e1 e2 e3
      subst e1 e3
      have HSN := Lib.hid (map_take_snoc' (commitI p) l j hjN)
      have HU := Lib.hid (commit_U64' p l[j])
      have HF := Lib.hid (fun (w' : World) => commit_any p l[j] w' HP.out hu1 hu2)
      generalize hy : l[j] = y at HSN HU HF hcu1 hcu2 hu1 hu2
      clear hy
      have HG1 : Hid (wr.grownBy (wr.alloc (Obj.cells #[.int .u64 y.1, .int .u64 y.2] 38)) none) := Lib.hid (World.grownBy_alloc wr _ none)
      have HAC := Lib.hid (hacc.kept HG1.out)
      have HG := Lib.hid (hg.trans HG1.out)
      have HBp := Lib.hid (hbp.grown HG1.out (by simp))
      have hp := hbp.prule
      have hlp := hbp.lt
      have HLB : Hid ((((l.take j).map (commitI p)).length + 1) * 8 ≤ 140737488355328) := Lib.hid (by simp; omega)
      clear hacc hg hbp e2 HX HST hu1 hu2
      go_wp2_with fail
      refine (HF.out _).mono ?_
      rintro e' w1 ⟨rfl, hg1⟩
      have HG2 := Lib.hid (HG.out.trans hg1)
      have HA1 := Lib.hid (HAC.out.kept hg1)
      have HBp1 := Lib.hid (HBp.out.grown hg1 (by simp))
      clear hg1 hp
      go_wp2_with (at_builtin; refine wpList_pushG rfl (.tmp 18) (.tmp 22) rfl (E := encU) el_u64 HG2.out HA1.out (fun _ h => h) ⟨rfl, HU.out⟩ HLB.out rfl rfl ?_)
      intro v2 w2 hacc2 hg2 hgo
      have HFIN : Hid (Acc encU w.heap.size 22 (fun g => w.heap.size ≤ g) w2 v2 ((l.take (j + 1)).map (commitI p)) ∧ w.grownBy w2 none ∧ Bk w2 w.heap.size 24 p.cells) := Lib.hid ⟨by rw [HSN.out]; simpa using hacc2, hg2, HBp1.out.grown hgo (fun e => HA1.out.ne_bk HBp1.out (by decide) e.symm)⟩
      clear hacc2 hg2 hgo
      go_wp2_with fail
      go_roundg m
      case measure => omega
      case rel => exact ⟨j + 1, by omega, by go_num, HFIN⟩
end Go.Proofs.YthicondcjeipfaaGreatDoor

namespace Go.Proofs.YthicondcjeipfaaGreatDoor
open Go Go.RowKit Go.Shelf

end Go.Proofs.YthicondcjeipfaaGreatDoor

namespace Go.Proofs.YthicondcjeipfaaGreatDoor
open Go Go.RowKit Go.Shelf

end Go.Proofs.YthicondcjeipfaaGreatDoor

namespace Go.Proofs.YthicondcjeipfaaGreatDoor
open Go Go.RowKit

set_option maxHeartbeats 1000000 in
theorem flatP_any (v : Value) (ls : List (List (Int × Int))) (X : Nat → Prop) (w : World) (h : Sl (encS encP) X w v ls) (hb : ls.length ≤ 1000) (hb2 : ∀ x ∈ ls, x.length ≤ 1000) :
    Calls Tryz.prog 51 #[v] w (Gives encP (fun g => w.heap.size ≤ g) w ls.flatten) := by
  have H := Lib.hid h
  have HB2 := Lib.hid hb2
  have HB := Lib.hid hb
  obtain ⟨A, c, rfl, hc1, hc2⟩ := h.form
  have HLN : Hid (∀ j, (ls.take j).flatten.length ≤ j * 1000) := Lib.hid (fun j => by
    induction j with
    | zero => simp
    | succ j ih =>
      rcases Nat.lt_or_ge j ls.length with h | h
      · rw [List.take_succ_eq_append_getElem h, List.flatten_append, List.length_append]
        have h1 := hb2 _ (List.getElem_mem h)
        have h2 : [ls[j]].flatten.length = ls[j].length := by simp
        rw [h2, Nat.add_mul]
        exact Nat.add_le_add ih (by rw [Nat.one_mul]; exact h1)
      · rw [List.take_of_length_le (show ls.length ≤ j + 1 from Nat.le_succ_of_le h)]
        rw [List.take_of_length_le h] at ih
        exact Nat.le_trans ih (Nat.mul_le_mul_right _ (Nat.le_succ j)))
  clear h hb hb2
  go_enter Tryz.func51, Tryz.ntmps51
  go_wp2_with fail
  go_loopg [3, 8] ls.length (fun g s3 s8 wx => ∃ j : Nat, j + g = ls.length ∧ s8 = .int .i64 j ∧ Hid (Acc encP w.heap.size 38 (fun g => w.heap.size ≤ g) wx s3 (ls.take j).flatten ∧ w.grownBy wx none))
  case atStart => exact ⟨0, by omega, rfl, Lib.hid ⟨Acc.nil _ _ _ _ _, World.grownBy.refl _ none⟩⟩
  case round =>
    obtain ⟨j, hj, rfl, HX⟩ := hrel
    cases gk with
    | zero =>
      obtain rfl : j = ls.length := by omega
      have HR : Hid (Sl encP (fun g => w.heap.size ≤ g) wr u3 ls.flatten ∧ w.grownBy wr none) := Lib.hid ⟨by have := HX.out.1.sl; rwa [List.take_length] at this, HX.out.2⟩
      clear HX
      go_wp2
      go_ret
      exact ⟨_, rfl, HR.out.1, HR.out.2⟩
    | succ m =>
      have hjn : (j : Int) < (ls.length : Int) := by omega
      have hjN : j < ls.length := by omega
      obtain ⟨hacc, hg⟩ := HX.out
      obtain ⟨g, o, c', u, e, _, _, hcu, hu⟩ := (H.out.kept hg).atS hjN
      injection e with e1 e2 e3
      subst e1 e3
      have HSN : Hid ((ls.take (j + 1)).flatten = (ls.take j).flatten ++ ls[j]) := Lib.hid (by rw [List.take_succ_eq_append_getElem hjN, List.flatten_append]; simp)
      have HAC := Lib.hid hacc
      have HG := Lib.hid hg
      obtain ⟨A1, c1, e1, _, _⟩ := hu.form
      have HLB : Hid (((ls.take j).flatten.length + ls[j].length) * 16 ≤ 140737488355328) := Lib.hid (by have h1 := HLN.out j; have h2 := HB.out; have h3 := HB2.out _ (List.getElem_mem hjN); omega)
      have HSZ : Hid (w.heap.size ≤ wr.heap.size) := Lib.hid hg.size
      have HU := Lib.hid hu
      clear hacc hg HX hu e2
      obtain ⟨y, hy⟩ : ∃ y, y = ls[j] := ⟨_, rfl⟩
      rw [← hy] at e1 HSN HLB HU
      clear hy
      obtain ⟨ny, hny⟩ : ∃ y2, y2 = y.length := ⟨_, rfl⟩
      rw [← hny] at e1
      subst e1
      clear hny
      go_wp2_with (at_builtin; refine wpList_apps rfl (.tmp 12) (.tmp 13) rfl (E := encP) el_pair HAC.out rfl rfl HU.out (fun _ _ h => h) HLB.out HSZ.out (fun _ h => Nat.le_trans HSZ.out h) ?_)
      intro v2 w2 hacc2 hg2 hm2
      have HFIN : Hid (Acc encP w.heap.size 38 (fun g => w.heap.size ≤ g) w2 v2 (ls.take (j + 1)).flatten ∧ w.grownBy w2 none) := Lib.hid ⟨by rw [HSN.out]; exact hacc2, grown_up HG.out hg2 (fun k e => (HAC.out.lt k e).1)⟩
      clear hacc2 hg2 hm2
      go_wp2_with fail
      go_roundg m
      case measure => omega
      case rel => exact ⟨j + 1, by omega, by go_num, HFIN⟩
set_option maxHeartbeats 1000000 in
theorem flatR_any (v : Value) (ls : List (List (List Int))) (X : Nat → Prop) (w : World) (h : Sl (encS (encS encU)) X w v ls) (hb : ls.length ≤ 1000) (hb2 : ∀ x ∈ ls, x.length ≤ 1000) :
    Calls Tryz.prog 50 #[v] w (Gives (encS encU) TT w ls.flatten) := by
  have H := Lib.hid h.bounded
  have HB2 := Lib.hid hb2
  have HB := Lib.hid hb
  obtain ⟨A, c, rfl, hc1, hc2⟩ := h.form
  have HLN : Hid (∀ j, (ls.take j).flatten.length ≤ j * 1000) := Lib.hid (fun j => by
    induction j with
    | zero => simp
    | succ j ih =>
      rcases Nat.lt_or_ge j ls.length with h | h
      · rw [List.take_succ_eq_append_getElem h, List.flatten_append, List.length_append]
        have h1 := hb2 _ (List.getElem_mem h)
        have h2 : [ls[j]].flatten.length = ls[j].length := by simp
        rw [h2, Nat.add_mul]
        exact Nat.add_le_add ih (by rw [Nat.one_mul]; exact h1)
      · rw [List.take_of_length_le (show ls.length ≤ j + 1 from Nat.le_succ_of_le h)]
        rw [List.take_of_length_le h] at ih
        exact Nat.le_trans ih (Nat.mul_le_mul_right _ (Nat.le_succ j)))
  clear h hb hb2
  go_enter Tryz.func50, Tryz.ntmps50
  go_wp2_with fail
  go_loopg [3, 8] ls.length (fun g s3 s8 wx => ∃ j : Nat, j + g = ls.length ∧ s8 = .int .i64 j ∧ Hid (Acc (encS encU) w.heap.size 29 TT wx s3 (ls.take j).flatten ∧ w.grownBy wx none))
  case atStart => exact ⟨0, by omega, rfl, Lib.hid ⟨Acc.nil _ _ _ _ _, World.grownBy.refl _ none⟩⟩
  case round =>
    obtain ⟨j, hj, rfl, HX⟩ := hrel
    cases gk with
    | zero =>
      obtain rfl : j = ls.length := by omega
      have HR : Hid (Sl (encS encU) TT wr u3 ls.flatten ∧ w.grownBy wr none) := Lib.hid ⟨by have := HX.out.1.sl; rwa [List.take_length] at this, HX.out.2⟩
      clear HX
      go_wp2
      go_ret
      exact ⟨_, rfl, HR.out.1, HR.out.2⟩
    | succ m =>
      have hjn : (j : Int) < (ls.length : Int) := by omega
      have hjN : j < ls.length := by omega
      obtain ⟨hacc, hg⟩ := HX.out
      obtain ⟨g, o, c', u, e, _, _, hcu, hu⟩ := (H.out.kept hg).atS hjN
      injection e with e1 e2 e3
      subst e1 e3
      have HSN : Hid ((ls.take (j + 1)).flatten = (ls.take j).flatten ++ ls[j]) := Lib.hid (by rw [List.take_succ_eq_append_getElem hjN, List.flatten_append]; simp)
      have HAC := Lib.hid hacc
      have HG := Lib.hid hg
      obtain ⟨A1, c1, e1, _, _⟩ := hu.form
      have HLB : Hid (((ls.take j).flatten.length + ls[j].length) * 24 ≤ 140737488355328) := Lib.hid (by have h1 := HLN.out j; have h2 := HB.out; have h3 := HB2.out _ (List.getElem_mem hjN); omega)
      have HSZ : Hid (w.heap.size ≤ wr.heap.size) := Lib.hid hg.size
      have HU := Lib.hid hu
      have HNO : Hid (∀ cs y, (encS encU).rep (fun g => X g ∧ g < w.heap.size) wr cs y → (encS encU).rep (fun g => TT g ∧ some g ≠ u3.ownBlock) wr cs y) := Lib.hid (fun cs y h => (encS encU).more h fun g _ hg => ⟨trivial, fun e => by have := (hacc.lt g e.symm).1; have := hg.2; omega⟩)
      clear hacc hg HX hu e2
      obtain ⟨y, hy⟩ : ∃ y, y = ls[j] := ⟨_, rfl⟩
      rw [← hy] at e1 HSN HLB HU
      clear hy
      obtain ⟨ny, hny⟩ : ∃ y2, y2 = y.length := ⟨_, rfl⟩
      rw [← hny] at e1
      subst e1
      clear hny
      go_wp2_with (at_builtin; refine wpList_apps rfl (.tmp 12) (.tmp 13) rfl (E := encS encU) el_nums HAC.out rfl rfl HU.out HNO.out HLB.out HSZ.out (fun _ _ => trivial) ?_)
      intro v2 w2 hacc2 hg2 hm2
      have HFIN : Hid (Acc (encS encU) w.heap.size 29 TT w2 v2 (ls.take (j + 1)).flatten ∧ w.grownBy w2 none) := Lib.hid ⟨by rw [HSN.out]; exact hacc2, grown_up HG.out hg2 (fun k e => (HAC.out.lt k e).1)⟩
      clear hacc2 hg2 hm2
      go_wp2_with fail
      go_roundg m
      case measure => omega
      case rel => exact ⟨j + 1, by omega, by go_num, HFIN⟩
/-- The numbers of pairs; of a matrix and two lists. -/
def prsN (l : List (Int × Int)) : List Int := (l.map fun x => [x.1, x.2]).flatten
def packI (M : List (List (List Int))) (a b : List (List (Int × Int))) : List Int := [M.flatten.flatten, prsN a.flatten, prsN b.flatten].flatten
theorem prsN_len (l : List (Int × Int)) : (prsN l).length = 2 * l.length := by
  induction l with
  | nil => rfl
  | cons x l ih =>
    have : prsN (x :: l) = [x.1, x.2] ++ prsN l := rfl
    rw [this, List.length_append, ih, List.length_cons]
    simp
    omega
end Go.Proofs.YthicondcjeipfaaGreatDoor

namespace Go.Proofs.YthicondcjeipfaaGreatDoor
open Go Go.RowKit Go.Shelf

/-- What Pack takes in is small. -/
def PackOk (M : List (List (List Int))) (a b : List (List (Int × Int))) : Prop :=
  M.length ≤ 300 ∧ (∀ x ∈ M, x.length ≤ 300) ∧ M.flatten.length ≤ 300 ∧ (∀ y ∈ M.flatten, y.length ≤ 300) ∧ M.flatten.flatten.length ≤ 300 ∧ a.length ≤ 300 ∧ (∀ x ∈ a, x.length ≤ 300) ∧ a.flatten.length ≤ 300 ∧ b.length ≤ 300 ∧ (∀ x ∈ b, x.length ≤ 300) ∧ b.flatten.length ≤ 300
end Go.Proofs.YthicondcjeipfaaGreatDoor

namespace Go.Proofs.YthicondcjeipfaaGreatDoor
open Go Go.RowKit Go.Shelf

end Go.Proofs.YthicondcjeipfaaGreatDoor

namespace Go.Proofs.YthicondcjeipfaaGreatDoor
open Go Go.RowKit Go.Shelf

end Go.Proofs.YthicondcjeipfaaGreatDoor

namespace Go.Proofs.YthicondcjeipfaaGreatDoor
open Go Go.RowKit Go.Shelf

theorem take_step {α : Type} {a b : List α} {i : Nat} (ha : i < a.length) (hb : i < b.length) (h : a.take i = b.take i) (e : a[i] = b[i]) : a.take (i + 1) = b.take (i + 1) := by
  rw [List.take_succ_eq_append_getElem ha, List.take_succ_eq_append_getElem hb, h, e]
theorem take_all {α : Type} {a b : List α} {n : Nat} (ha : a.length = n) (hb : b.length = n) (h : a.take n = b.take n) : a = b := by
  rwa [List.take_of_length_le (by omega), List.take_of_length_le (by omega)] at h
def dfitsB (p : Par) (l : List (List (Int × Int))) (cs : List (List Int)) : Bool := decide ((l.map fun c => c.map (commitI p)) = cs)
set_option maxRecDepth 100000 in
set_option maxHeartbeats 4000000 in
theorem dfits_any (p : Par) (v1 v2 : Value) (l : List (List (Int × Int))) (cs : List (List Int)) (X Y : Nat → Prop) (w : World) (hp : p.ok) (h1 : Sl (encS encP) X w v1 l) (h2 : Sl (encS encU) Y w v2 cs) (hb : l.length ≤ 1000) (hb2 : ∀ c ∈ l, c.length ≤ 1000) :
    Calls Tryz.prog 32 #[p.v, v1, v2] w fun e w' => e = .returned (.bool (dfitsB p l cs)) ∧ w.grownBy w' none := by
  have H1 := Lib.hid h1
  have H2 := Lib.hid h2
  have HP := Lib.hid hp
  have HB2 := Lib.hid hb2
  obtain ⟨A1, c1, rfl, q1, q2⟩ := h1.form
  clear q1 q2
  obtain ⟨A2, c2, rfl, q1, q2⟩ := h2.form
  clear q1 q2
  obtain ⟨B, hB⟩ : ∃ B, B = dfitsB p l cs := ⟨_, rfl⟩
  have HBB := Lib.hid hB
  rw [← hB]
  obtain ⟨w0, hw0⟩ : ∃ y, y = w.alloc (Obj.cells p.cells 24) := ⟨_, rfl⟩
  have HB0 : Hid (Bk w0 w.heap.size 24 p.cells) := Lib.hid (by rw [hw0]; exact Bk.new w _ _)
  have HG0 : Hid (w.grownBy w0 none) := Lib.hid (by rw [hw0]; exact World.grownBy_alloc w _ none)
  have HWS : Hid (w.heap.size < w0.heap.size) := Lib.hid HB0.out.lt
  by_cases hl : l.length = cs.length
  · have HLC := Lib.hid hl
    rw [← hl] at H2 ⊢
    obtain ⟨L, hL⟩ : ∃ y, y = l.length := ⟨_, rfl⟩
    have HL := Lib.hid hL
    rw [← hL] at H1 H2 hb ⊢
    clear h1 h2 hp hb2 hL hl hB
    go_enter Tryz.func32, Tryz.ntmps32
    go_upto_region 4 with (fail)
    rw [← hw0]
    clear hw0
    go_loopg [17] L (fun gk s17 wx => ∃ i : Nat, i + gk = L ∧ s17 = .int .i64 i ∧ Hid (w0.grownBy wx none ∧ (l.map fun c => c.map (commitI p)).take i = cs.take i))
    case atStart => exact ⟨0, by omega, rfl, Lib.hid ⟨World.grownBy.refl _ _, rfl⟩⟩
    case round =>
      obtain ⟨i, hiL, rfl, HX⟩ := hrel
      cases gk with
      | zero =>
        have eI : L = i := by omega
        subst eI
        have hno : ¬ ((L : Int) < (L : Int)) := by omega
        have HGF : Hid (w.grownBy wr none) := Lib.hid (HG0.out.trans HX.out.1)
        have HT : Hid (B = true) := Lib.hid (by
          rw [HBB.out]
          exact decide_eq_true (take_all (by rw [List.length_map]; exact HL.out.symm) (by rw [← HLC.out]; exact HL.out.symm) HX.out.2))
        clear HX
        go_wp2
        go_ret
        exact ⟨ret_bool HT.out.symm, HGF.out⟩
      | succ m =>
        have hiI : (i : Int) < (L : Int) := by omega
        have hi0 : (0 : Int) ≤ (i : Int) := Int.natCast_nonneg i
        have hi : i < l.length := by rw [← HL.out]; omega
        have hi2 : i < cs.length := by rw [← HLC.out]; exact hi
        obtain ⟨gA, oA, cA', uA, eA, q1, q2, hcA, hsA⟩ := (H1.out.kept (HG0.out.trans HX.out.1)).atS hi
        clear q1 q2
        injection eA with eA1 eA2 eA3
        clear eA2
        subst eA1 eA3
        obtain ⟨gB, oB, cB', uB, eB, q1, q2, hcB, hsB⟩ := (H2.out.kept (HG0.out.trans HX.out.1)).atS hi2
        clear q1 q2
        injection eB with eB1 eB2 eB3
        clear eB2
        subst eB1 eB3
        have HSTEP : Hid (l[i].map (commitI p) = cs[i] → (l.map fun c => c.map (commitI p)).take (i + 1) = cs.take (i + 1)) := Lib.hid (fun h => take_step (by rw [List.length_map]; exact hi) hi2 HX.out.2 (by rw [List.getElem_map]; exact h))
        have HNO : Hid (l[i].map (commitI p) ≠ cs[i] → B = false) := Lib.hid (fun h => by
          rw [HBB.out]
          exact decide_eq_false fun e => h (by
            have h1 : (l.map fun c => c.map (commitI p))[i]? = cs[i]? := by rw [e]
            rw [List.getElem?_eq_getElem (by rw [List.length_map]; exact hi), List.getElem?_eq_getElem hi2, List.getElem_map] at h1
            exact Option.some.inj h1))
        obtain ⟨y, hy⟩ : ∃ y, y = l[i] := ⟨_, rfl⟩
        obtain ⟨z, hz⟩ : ∃ z, z = cs[i] := ⟨_, rfl⟩
        have HYL : Hid (y.length ≤ 1000) := Lib.hid (by rw [hy]; exact HB2.out _ (List.getElem_mem hi))
        rw [← hy] at hsA HSTEP HNO
        rw [← hz] at hsB HSTEP HNO
        obtain ⟨Ai, ci, ef, q1, q2⟩ := hsA.form
        clear q1 q2
        obtain ⟨Bi, di, eb, q1, q2⟩ := hsB.form
        clear q1 q2
        subst ef eb
        obtain ⟨ny, hny⟩ : ∃ k, k = y.length := ⟨_, rfl⟩
        obtain ⟨nz, hnz⟩ : ∃ k, k = z.length := ⟨_, rfl⟩
        have HNY := Lib.hid (And.intro hny hnz)
        have hny9 : ny ≤ 1000 := by rw [hny]; exact HYL.out
        rw [← hny] at hsA hcA
        rw [← hnz] at hsB hcB
        have HGR : Hid (w0.grownBy wr.drew none) := Lib.hid (HX.out.1.trans (grown_drewN' wr 1))
        have HL6 : Hid (∀ W, wr.drew.grownBy W none → W.cell? ⟨gA, oA + i, none⟩ = some (.slice Ai ny ci) ∧ W.cell? ⟨gB, oB + i, none⟩ = some (.slice Bi nz di)) := Lib.hid (fun W hg => ⟨cellK hcA ((grown_drewN' wr 1).trans hg) (by simp), cellK hcB ((grown_drewN' wr 1).trans hg) (by simp)⟩)
        have HSA := Lib.hid (hsA.kept (grown_drewN' wr 1))
        have HSB := Lib.hid (hsB.kept (grown_drewN' wr 1))
        clear hsA hsB hcA hcB hy hz hny hnz HX hi2
        go_upto_region 6 with (fail)
        refine wp_region_mono 11 (by kernel_rfl) (by kernel_rfl) ?_
        -- op 0 (slot 20): move
        refine MonoR.step (Pv.eq (.slice (some ⟨gA, oA, none⟩) L c1)) [] (by kernel_rfl) (fun w' hw' => ?_) ?_
        · refine ask_do rfl fun K hK => ?_
          go_simp
          exact hK _ _ rfl rfl (World.grownBy.refl _ none)
        -- op 1 (slot 21): move
        refine MonoR.step (Pv.eq (.int .i64 (i : Int))) [] (by kernel_rfl) (fun w' hw' => ?_) ?_
        · refine ask_do rfl fun K hK => ?_
          go_simp
          exact hK _ _ rfl rfl (World.grownBy.refl _ none)
        -- op 2 (slot 22): indexAddr
        refine MonoR.step (Pv.eq (.pointer (some ⟨gA, oA + i, none⟩))) [(0, 20), (1, 21)] (by kernel_rfl) (fun w' hw' => ?_) ?_
        · intro x20 h20
          intro x21 h21
          have e20 : x20 = .slice (some ⟨gA, oA, none⟩) L c1 := h20
          clear h20
          subst e20
          have e21 : x21 = .int .i64 (i : Int) := h21
          clear h21
          subst e21
          refine ask_do rfl fun K hK => ?_
          go_simp
          exact hK _ _ rfl rfl (World.grownBy.refl _ none)
        -- op 3 (slot 23): load
        refine MonoR.step (Pv.eq (.slice Ai ny ci)) [(2, 22)] (by kernel_rfl) (fun w' hw' => ?_) ?_
        · intro x22 h22
          have e22 : x22 = .pointer (some ⟨gA, oA + i, none⟩) := h22
          clear h22
          subst e22
          refine ask_do rfl fun K hK => ?_
          obtain ⟨q0, q1⟩ := HL6.out w' hw'
          go_simp
          exact hK _ _ rfl rfl (World.grownBy.refl _ none)
        -- op 4 (slot 24): call
        refine MonoR.step (Pv.eq (.int .i64 (ny : Int))) [(3, 23)] (by kernel_rfl) (fun w' hw' => ?_) ?_
        · intro x23 h23
          have e23 : x23 = .slice Ai ny ci := h23
          clear h23
          subst e23
          refine ask_do rfl fun K hK => ?_
          go_simp
          exact hK _ _ rfl rfl (World.grownBy.refl _ none)
        -- op 5 (slot 25): move
        refine MonoR.step (Pv.eq (.slice (some ⟨gB, oB, none⟩) L c2)) [] (by kernel_rfl) (fun w' hw' => ?_) ?_
        · refine ask_do rfl fun K hK => ?_
          go_simp
          exact hK _ _ rfl rfl (World.grownBy.refl _ none)
        -- op 6 (slot 26): move
        refine MonoR.step (Pv.eq (.int .i64 (i : Int))) [] (by kernel_rfl) (fun w' hw' => ?_) ?_
        · refine ask_do rfl fun K hK => ?_
          go_simp
          exact hK _ _ rfl rfl (World.grownBy.refl _ none)
        -- op 7 (slot 27): indexAddr
        refine MonoR.step (Pv.eq (.pointer (some ⟨gB, oB + i, none⟩))) [(5, 25), (6, 26)] (by kernel_rfl) (fun w' hw' => ?_) ?_
        · intro x25 h25
          intro x26 h26
          have e25 : x25 = .slice (some ⟨gB, oB, none⟩) L c2 := h25
          clear h25
          subst e25
          have e26 : x26 = .int .i64 (i : Int) := h26
          clear h26
          subst e26
          refine ask_do rfl fun K hK => ?_
          go_simp
          exact hK _ _ rfl rfl (World.grownBy.refl _ none)
        -- op 8 (slot 28): load
        refine MonoR.step (Pv.eq (.slice Bi nz di)) [(7, 27)] (by kernel_rfl) (fun w' hw' => ?_) ?_
        · intro x27 h27
          have e27 : x27 = .pointer (some ⟨gB, oB + i, none⟩) := h27
          clear h27
          subst e27
          refine ask_do rfl fun K hK => ?_
          obtain ⟨q0, q1⟩ := HL6.out w' hw'
          go_simp
          exact hK _ _ rfl rfl (World.grownBy.refl _ none)
        -- op 9 (slot 29): call
        refine MonoR.step (Pv.eq (.int .i64 (nz : Int))) [(8, 28)] (by kernel_rfl) (fun w' hw' => ?_) ?_
        · intro x28 h28
          have e28 : x28 = .slice Bi nz di := h28
          clear h28
          subst e28
          refine ask_do rfl fun K hK => ?_
          go_simp
          exact hK _ _ rfl rfl (World.grownBy.refl _ none)
        -- op 10 (slot 30): binOp
        refine MonoR.step (Pv.eq (.bool ((ny : Int) != (nz : Int)))) [(4, 24), (9, 29)] (by kernel_rfl) (fun w' hw' => ?_) ?_
        · intro x24 h24
          intro x29 h29
          have e24 : x24 = .int .i64 (ny : Int) := h24
          clear h24
          subst e24
          have e29 : x29 = .int .i64 (nz : Int) := h29
          clear h29
          subst e29
          refine ask_do rfl fun K hK => ?_
          go_simp
          exact hK _ _ rfl rfl (World.grownBy.refl _ none)
        
        intro w3 hw3
        intro y0 k0 y1 k1 y2 k2 y3 k3 y4 k4 y5 k5 y6 k6 y7 k7 y8 k8 y9 k9 y10 k10
        have e10 : y10 = .bool ((ny : Int) != (nz : Int)) := k10
        subst e10
        obtain ⟨q0, q1⟩ := HL6.out w3 hw3
        have HQ1 := Lib.hid q1
        have HS3 := Lib.hid (HSA.out.kept hw3)
        have HT3 := Lib.hid (HSB.out.kept hw3)
        have HG3 : Hid (w0.grownBy w3 none) := Lib.hid (HGR.out.trans hw3)
        clear k0 k1 k2 k3 k4 k5 k6 k7 k8 k9 k10 hw3 HL6 HSA HSB HGR q1
        refine wpList_nil ?_
        simp only [Act.put, List.setIfInBounds_toArray, List.set_cons_zero, List.set_cons_succ]
        by_cases hnn : ny = nz
        · subst hnn
          have hne : ((ny : Int) != (ny : Int)) = false := by simp
          go_upto_region 9 with (fail)
          go_loopg [36] ny (fun gk s36 wx => ∃ j : Nat, j + gk = ny ∧ s36 = .int .i64 j ∧ Hid (w3.grownBy wx none ∧ (y.map (commitI p)).take j = z.take j))
          case atStart => exact ⟨0, by omega, rfl, Lib.hid ⟨World.grownBy.refl _ _, rfl⟩⟩
          case round =>
            rename World => wj
            obtain ⟨j, hjn, rfl, HY⟩ := hrel
            cases gk with
            | zero =>
              have eJ : ny = j := by omega
              subst eJ
              have hno : ¬ ((ny : Int) < (ny : Int)) := by omega
              have HFIN : Hid (w0.grownBy wj none ∧ (l.map fun c => c.map (commitI p)).take (i + 1) = cs.take (i + 1)) := Lib.hid ⟨HG3.out.trans HY.out.1, HSTEP.out (take_all (by rw [List.length_map]; exact HNY.out.1.symm) HNY.out.2.symm HY.out.2)⟩
              clear HY HS3 HT3 q0 hi
              go_wp2_with fail
              go_roundg m
              case measure => omega
              case rel => exact ⟨i + 1, by omega, by go_num, HFIN⟩
            | succ q =>
              have hjI : (j : Int) < (ny : Int) := by omega
              have hj0 : (0 : Int) ≤ (j : Int) := Int.natCast_nonneg j
              have hjy : j < y.length := by rw [← HNY.out.1]; omega
              have hjz : j < z.length := by rw [← HNY.out.2]; omega
              obtain ⟨ga, oa, ca, ea, q1, q2, hc0, hc1, hu1, hu2⟩ := (HS3.out.kept HY.out.1).atP hjy
              clear q1 q2
              injection ea with ea1 ea2 ea3
              clear ea2
              subst ea1 ea3
              obtain ⟨gb, ob, cb, eb, q1, q2, hcb, hub⟩ := (HT3.out.kept HY.out.1).atU hjz
              clear q1 q2
              injection eb with eb1 eb2 eb3
              clear eb2
              subst eb1 eb3
              have HSTJ : Hid (commitI p y[j] = z[j] → (y.map (commitI p)).take (j + 1) = z.take (j + 1)) := Lib.hid (fun h => take_step (by rw [List.length_map]; exact hjy) hjz HY.out.2 (by rw [List.getElem_map]; exact h))
              have HNOJ : Hid (commitI p y[j] ≠ z[j] → B = false) := Lib.hid (fun h => HNO.out fun e => h (by
                have h1 : (y.map (commitI p))[j]? = z[j]? := by rw [e]
                rw [List.getElem?_eq_getElem (by rw [List.length_map]; exact hjy), List.getElem?_eq_getElem hjz, List.getElem_map] at h1
                exact Option.some.inj h1))
              obtain ⟨x, hx⟩ : ∃ x, x = y[j] := ⟨_, rfl⟩
              obtain ⟨s, hs⟩ : ∃ s, s = z[j] := ⟨_, rfl⟩
              rw [← hx] at hc0 hc1 hu1 hu2 HSTJ HNOJ
              rw [← hs] at hcb HSTJ HNOJ
              obtain ⟨x1, x2⟩ := x
              simp only at hc0 hc1 hu1 hu2
              obtain ⟨c, hc⟩ : ∃ c, c = commitI p (x1, x2) := ⟨_, rfl⟩
              rw [← hc] at HSTJ HNOJ
              obtain ⟨wa, hwa⟩ : ∃ y, y = wj.alloc (Obj.cells #[.int .u64 x1, .int .u64 x2] 38) := ⟨_, rfl⟩
              obtain ⟨Bb, hBb⟩ : ∃ y, y = wj.heap.size := ⟨_, rfl⟩
              have HGA : Hid (wj.grownBy wa none) := Lib.hid (by rw [hwa]; exact World.grownBy_alloc _ _ none)
              have HBA : Hid (Bk wa Bb 38 #[.int .u64 x1, .int .u64 x2]) := Lib.hid (by rw [hwa, hBb]; exact Bk.new _ _ _)
              have HBP : Hid (Bk wj w.heap.size 24 p.cells) := Lib.hid (HB0.out.grown (HG3.out.trans HY.out.1) (by simp))
              have HGW : Hid (wj.grownBy wa.drew none) := Lib.hid (HGA.out.trans (grown_drewN' wa 1))
              have HL11 : Hid (∀ W, wa.drew.grownBy W none → (∀ o, W.cell? ⟨w.heap.size, o, none⟩ = (#[.int .u64 p.P, .int .u64 p.Q, .int .u64 p.G, .int .u64 p.H, .int .i64 p.Nodes, .int .i64 p.N, .int .i64 p.T, .int .i64 p.K, .int .i64 p.D, .int .i64 p.R, .int .i64 p.M, .int .i64 p.X] : Array Value)[o]?) ∧ W.cell? ⟨Bb, 0, none⟩ = some (.int .u64 x1) ∧ W.cell? ⟨Bb, 1, none⟩ = some (.int .u64 x2) ∧ W.cell? ⟨gB, oB + i, none⟩ = some (.slice (some ⟨gb, ob, none⟩) ny di) ∧ W.cell? ⟨gb, ob + j, none⟩ = some (.int .u64 s)) := Lib.hid (fun W hW => ⟨(HBP.out.grown (HGW.out.trans hW) (by simp)).prule, (HBA.out.grown ((grown_drewN' wa 1).trans hW) (by simp)).cell 0, (HBA.out.grown ((grown_drewN' wa 1).trans hW) (by simp)).cell 1, cellK HQ1.out ((HY.out.1.trans HGW.out).trans hW) (by simp), cellK hcb (HGW.out.trans hW) (by simp)⟩)
              have HCM : Hid (∀ W, Calls Tryz.prog 75 #[p.v, .agg #[.int .u64 x1, .int .u64 x2]] W fun e' w' => e' = .returned (.int .u64 c) ∧ W.grownBy w' none) := Lib.hid (fun W => by rw [hc]; exact commit_any p (x1, x2) W HP.out hu1 hu2)
              have HG4 : Hid (w3.grownBy wa.drew none) := Lib.hid (HY.out.1.trans HGW.out)
              clear hcb hub hx hs hu1 hu2 HY q0 hjy hjz hc
              go_upto_region 11 with (fail)
              rw [← hwa, ← hBb]
              clear hwa hBb hc0 hc1
              refine wp_region_mono 11 (by kernel_rfl) (by kernel_rfl) ?_
              -- op 0 (slot 41): load
              refine MonoR.step (Pv.eq (p.v)) [] (by kernel_rfl) (fun w' hw' => ?_) ?_
              · refine ask_do rfl fun K hK => ?_
                obtain ⟨q0, q1, q2, q3, q4⟩ := HL11.out w' hw'
                go_simp
                exact hK _ _ rfl rfl (World.grownBy.refl _ none)
              -- op 1 (slot 42): load
              refine MonoR.step (Pv.eq (.agg #[.int .u64 x1, .int .u64 x2])) [] (by kernel_rfl) (fun w' hw' => ?_) ?_
              · refine ask_do rfl fun K hK => ?_
                obtain ⟨q0, q1, q2, q3, q4⟩ := HL11.out w' hw'
                go_simp
                exact hK _ _ rfl rfl (World.grownBy.refl _ none)
              -- op 2 (slot 43): call
              refine MonoR.step (Pv.eq (.int .u64 c)) [(0, 41), (1, 42)] (by kernel_rfl) (fun w' hw' => ?_) ?_
              · intro x41 h41
                intro x42 h42
                have e41 : x41 = p.v := h41
                clear h41
                subst e41
                have e42 : x42 = .agg #[.int .u64 x1, .int .u64 x2] := h42
                clear h42
                subst e42
                refine ask_do rfl fun K hK => ?_
                go_simp
                refine (HCM.out w').mono ?_
                rintro e w3 ⟨rfl, hg⟩
                exact hK _ _ rfl rfl hg
              -- op 3 (slot 44): move
              refine MonoR.step (Pv.eq (.slice (some ⟨gB, oB, none⟩) L c2)) [] (by kernel_rfl) (fun w' hw' => ?_) ?_
              · refine ask_do rfl fun K hK => ?_
                go_simp
                exact hK _ _ rfl rfl (World.grownBy.refl _ none)
              -- op 4 (slot 45): move
              refine MonoR.step (Pv.eq (.int .i64 (i : Int))) [] (by kernel_rfl) (fun w' hw' => ?_) ?_
              · refine ask_do rfl fun K hK => ?_
                go_simp
                exact hK _ _ rfl rfl (World.grownBy.refl _ none)
              -- op 5 (slot 46): indexAddr
              refine MonoR.step (Pv.eq (.pointer (some ⟨gB, oB + i, none⟩))) [(3, 44), (4, 45)] (by kernel_rfl) (fun w' hw' => ?_) ?_
              · intro x44 h44
                intro x45 h45
                have e44 : x44 = .slice (some ⟨gB, oB, none⟩) L c2 := h44
                clear h44
                subst e44
                have e45 : x45 = .int .i64 (i : Int) := h45
                clear h45
                subst e45
                refine ask_do rfl fun K hK => ?_
                go_simp
                exact hK _ _ rfl rfl (World.grownBy.refl _ none)
              -- op 6 (slot 47): load
              refine MonoR.step (Pv.eq (.slice (some ⟨gb, ob, none⟩) ny di)) [(5, 46)] (by kernel_rfl) (fun w' hw' => ?_) ?_
              · intro x46 h46
                have e46 : x46 = .pointer (some ⟨gB, oB + i, none⟩) := h46
                clear h46
                subst e46
                refine ask_do rfl fun K hK => ?_
                obtain ⟨q0, q1, q2, q3, q4⟩ := HL11.out w' hw'
                go_simp
                exact hK _ _ rfl rfl (World.grownBy.refl _ none)
              -- op 7 (slot 48): move
              refine MonoR.step (Pv.eq (.int .i64 (j : Int))) [] (by kernel_rfl) (fun w' hw' => ?_) ?_
              · refine ask_do rfl fun K hK => ?_
                go_simp
                exact hK _ _ rfl rfl (World.grownBy.refl _ none)
              -- op 8 (slot 49): indexAddr
              refine MonoR.step (Pv.eq (.pointer (some ⟨gb, ob + j, none⟩))) [(6, 47), (7, 48)] (by kernel_rfl) (fun w' hw' => ?_) ?_
              · intro x47 h47
                intro x48 h48
                have e47 : x47 = .slice (some ⟨gb, ob, none⟩) ny di := h47
                clear h47
                subst e47
                have e48 : x48 = .int .i64 (j : Int) := h48
                clear h48
                subst e48
                refine ask_do rfl fun K hK => ?_
                go_simp
                exact hK _ _ rfl rfl (World.grownBy.refl _ none)
              -- op 9 (slot 50): load
              refine MonoR.step (Pv.eq (.int .u64 s)) [(8, 49)] (by kernel_rfl) (fun w' hw' => ?_) ?_
              · intro x49 h49
                have e49 : x49 = .pointer (some ⟨gb, ob + j, none⟩) := h49
                clear h49
                subst e49
                refine ask_do rfl fun K hK => ?_
                obtain ⟨q0, q1, q2, q3, q4⟩ := HL11.out w' hw'
                go_simp
                exact hK _ _ rfl rfl (World.grownBy.refl _ none)
              -- op 10 (slot 51): binOp
              refine MonoR.step (Pv.eq (.bool (c != s))) [(2, 43), (9, 50)] (by kernel_rfl) (fun w' hw' => ?_) ?_
              · intro x43 h43
                intro x50 h50
                have e43 : x43 = .int .u64 c := h43
                clear h43
                subst e43
                have e50 : x50 = .int .u64 s := h50
                clear h50
                subst e50
                refine ask_do rfl fun K hK => ?_
                go_simp
                exact hK _ _ rfl rfl (World.grownBy.refl _ none)
              
              intro w5 hw5
              intro y0 k0 y1 k1 y2 k2 y3 k3 y4 k4 y5 k5 y6 k6 y7 k7 y8 k8 y9 k9 y10 k10
              have e10 : y10 = .bool (c != s) := k10
              subst e10
              have HG5 : Hid (w3.grownBy w5 none) := Lib.hid (HG4.out.trans hw5)
              clear k0 k1 k2 k3 k4 k5 k6 k7 k8 k9 k10 hw5 HL11 HCM HG4 HGW HBP HBA HGA
              refine wpList_nil ?_
              simp only [Act.put, List.setIfInBounds_toArray, List.set_cons_zero, List.set_cons_succ]
              by_cases hcs : c = s
              · have hnc : (c != s) = false := by simpa using hcs
                have HFIN : Hid (w3.grownBy w5 none ∧ (y.map (commitI p)).take (j + 1) = z.take (j + 1)) := Lib.hid ⟨HG5.out, HSTJ.out hcs⟩
                clear hcs
                go_wp2_with fail
                go_roundg q
                case measure => omega
                case rel => exact ⟨j + 1, by omega, by go_num, HFIN⟩
              · have hnc : (c != s) = true := by simpa using hcs
                have HF := Lib.hid (HNOJ.out hcs)
                have HGF : Hid (w.grownBy w5 none) := Lib.hid (HG0.out.trans (HG3.out.trans HG5.out))
                clear hcs
                go_wp2_with fail
                go_ret
                exact ⟨ret_bool HF.out.symm, HGF.out⟩
        · have hne : ((ny : Int) != (nz : Int)) = true := by simpa using (by omega : ¬ (ny : Int) = (nz : Int))
          have HF := Lib.hid (HNO.out fun e => hnn (by rw [HNY.out.1, HNY.out.2, ← e, List.length_map]))
          have HGF : Hid (w.grownBy w3 none) := Lib.hid (HG0.out.trans HG3.out)
          clear hnn
          go_wp2_with fail
          go_ret
          exact ⟨ret_bool HF.out.symm, HGF.out⟩
  · have hne : ((l.length : Int) != (cs.length : Int)) = true := by simpa using (by omega : ¬ (l.length : Int) = (cs.length : Int))
    have HF : Hid (B = false) := Lib.hid (by
      rw [HBB.out]
      exact decide_eq_false fun h => hl (by rw [← h, List.length_map]))
    obtain ⟨n1, hn1⟩ : ∃ n, n = l.length := ⟨_, rfl⟩
    obtain ⟨n2, hn2⟩ : ∃ n, n = cs.length := ⟨_, rfl⟩
    rw [← hn1, ← hn2] at hne ⊢
    clear h1 h2 hp hb2 hl hB hn1 hn2 H1 H2 hb
    go_enter Tryz.func32, Tryz.ntmps32
    go_wp2_with fail
    rw [← hw0]
    go_ret
    exact ⟨ret_bool HF.out.symm, HG0.out⟩
end Go.Proofs.YthicondcjeipfaaGreatDoor

namespace Go.Proofs.YthicondcjeipfaaGreatDoor
open Go Go.RowKit Go.Shelf

set_option maxRecDepth 100000 in
set_option maxHeartbeats 2000000 in
theorem dmeets_any (p : Par) (vm vl : Value) (m : List (List (List Int))) (x y : Int) (l : List (Int × Int)) (X Y : Nat → Prop) (w : World) (hp : p.ok) (h1 : Sl (encS (encS encU)) X w vm m) (hx : U64 x) (hy : U64 y) (h2 : Sl encP Y w vl l) (hb1 : m.length ≤ 100000) (hb2 : ∀ l ∈ m, l.length ≤ 100000 ∧ ∀ c ∈ l, c.length ≤ 100000) (hb : l.length ≤ 100000) :
    Calls Tryz.prog 14 #[p.v, vm, .int .u64 x, .int .u64 y, vl] w fun e w' => e = .returned (.bool (fitsI p (rowComsI p m x) y l)) ∧ w.grownBy w' none := by
  obtain ⟨Am, nm, cm, rfl⟩ := h1.shape
  obtain ⟨Al, nl, cl, rfl⟩ := h2.shape
  obtain ⟨w0, hw0⟩ : ∃ y, y = w.alloc (Obj.cells p.cells 24) := ⟨_, rfl⟩
  have HB0 : Hid (Bk w0 w.heap.size 24 p.cells) := Lib.hid (by rw [hw0]; exact Bk.new w _ _)
  have HG0 : Hid (w.grownBy w0 none) := Lib.hid (by rw [hw0]; exact World.grownBy_alloc w _ none)
  have HBP : Hid (Bk w0.drew w.heap.size 24 p.cells) := Lib.hid (HB0.out.drewN 1)
  have HGD : Hid (w.grownBy w0.drew none) := Lib.hid (HG0.out.trans (grown_drewN' w0 1))
  obtain ⟨cs, hcs⟩ : ∃ y, y = rowComsI p m x := ⟨_, rfl⟩
  have HCL : Hid (cs.length ≤ 100000) := Lib.hid (by rw [hcs]; simp [rowComsI]; exact hb1)
  have HRC : Hid (∀ W, w0.drew.grownBy W none → Calls Tryz.prog 33 #[p.v, .slice Am nm cm, .int .u64 x] W (Gives (encS encU) (fun g => W.heap.size ≤ g) W cs)) := Lib.hid (fun W hg => by
    rw [hcs]
    exact rowComs_any p _ m x X W (h1.kept (HGD.out.trans hg)) hx hb1 hb2)
  rw [← hcs]
  obtain ⟨b, hbe⟩ : ∃ b, b = fitsI p cs y l := ⟨_, rfl⟩
  have HFI : Hid (∀ v W, w0.drew.grownBy W none → Sl (encS encU) TT W v cs → Calls Tryz.prog 41 #[p.v, v, .int .u64 y, .slice Al nl cl] W fun e w' => e = .returned (.bool b) ∧ W.grownBy w' none) := Lib.hid (fun v W hg hs => by
    rw [hbe]
    exact fits_any p v cs y _ l TT Y W hp hs hy (h2.kept (HGD.out.trans hg)) HCL.out hb)
  rw [← hbe]
  clear h1 h2 hcs hp hb hb1 hb2 hbe HCL
  go_enter Tryz.func14, Tryz.ntmps14
  go_upto_region 1 with (fail)
  rw [← hw0]
  clear hw0
  refine wp_region_mono 9 (by kernel_rfl) (by kernel_rfl) ?_
  -- op 0 (slot 11): load
  refine MonoR.step (Pv.eq (p.v)) [] (by kernel_rfl) (fun w' hw' => ?_) ?_
  · refine ask_do rfl fun K hK => ?_
    have hp := (HBP.out.grown hw' (by simp)).prule
    go_simp
    exact hK _ _ rfl rfl (World.grownBy.refl _ none)
  -- op 1 (slot 12): load
  refine MonoR.step (Pv.eq (p.v)) [] (by kernel_rfl) (fun w' hw' => ?_) ?_
  · refine ask_do rfl fun K hK => ?_
    have hp := (HBP.out.grown hw' (by simp)).prule
    go_simp
    exact hK _ _ rfl rfl (World.grownBy.refl _ none)
  -- op 2 (slot 13): move
  refine MonoR.step (Pv.eq (.slice Am nm cm)) [] (by kernel_rfl) (fun w' hw' => ?_) ?_
  · refine ask_do rfl fun K hK => ?_
    go_simp
    exact hK _ _ rfl rfl (World.grownBy.refl _ none)
  -- op 3 (slot 14): move
  refine MonoR.step (Pv.eq (.int .u64 x)) [] (by kernel_rfl) (fun w' hw' => ?_) ?_
  · refine ask_do rfl fun K hK => ?_
    go_simp
    exact hK _ _ rfl rfl (World.grownBy.refl _ none)
  -- op 4 (slot 15): call
  refine MonoR.step (Pv.sl (encS encU) TT cs) [(1, 12), (2, 13), (3, 14)] (by kernel_rfl) (fun w' hw' => ?_) ?_
  · rintro _ rfl
    rintro _ rfl
    rintro _ rfl
    refine ask_do rfl fun K hK => ?_
    go_simp
    refine (HRC.out w' hw').mono ?_
    rintro e w3 ⟨v3, rfl, hs3, hg3⟩
    exact hK _ _ rfl (hs3.more fun _ _ _ => trivial) hg3
  -- op 5 (slot 16): move
  refine MonoR.step (Pv.eq (.int .u64 y)) [] (by kernel_rfl) (fun w' hw' => ?_) ?_
  · refine ask_do rfl fun K hK => ?_
    go_simp
    exact hK _ _ rfl rfl (World.grownBy.refl _ none)
  -- op 6 (slot 17): move
  refine MonoR.step (Pv.eq (.slice Al nl cl)) [] (by kernel_rfl) (fun w' hw' => ?_) ?_
  · refine ask_do rfl fun K hK => ?_
    go_simp
    exact hK _ _ rfl rfl (World.grownBy.refl _ none)
  -- op 7 (slot 18): call
  refine MonoR.step (Pv.eq (.bool b)) [(0, 11), (4, 15), (5, 16), (6, 17)] (by kernel_rfl) (fun w' hw' => ?_) ?_
  · rintro _ rfl
    intro x15 h15
    have h15 : Sl (encS encU) TT w' x15 cs := h15
    obtain ⟨A15, c15, e15, k15, l15⟩ := h15.form
    have e15 : x15 = .slice A15 cs.length c15 := e15
    subst e15
    rintro _ rfl
    rintro _ rfl
    refine ask_do rfl fun K hK => ?_
    go_simp
    refine (HFI.out _ w' hw' h15).mono ?_
    rintro e w3 ⟨rfl, hg3⟩
    exact hK _ _ rfl rfl hg3
  -- op 8 (slot 10): assign
  refine MonoR.step (Pv.eq (.bool b)) [(7, 18)] (by kernel_rfl) (fun w' hw' => ?_) ?_
  · rintro _ rfl
    refine ask_do rfl fun K hK => ?_
    go_simp
    exact hK _ _ rfl rfl (World.grownBy.refl _ none)
  

  intro w3 hw3
  intro y0 k0 y1 k1 y2 k2 y3 k3 y4 k4 y5 k5 y6 k6 y7 k7 y8 k8
  have e8 : y8 = .bool b := k8
  subst e8
  have HGF : Hid (w.grownBy w3 none) := Lib.hid (HGD.out.trans hw3)
  clear k0 k1 k2 k3 k4 k5 k6 k7 k8 hw3
  refine wpList_nil ?_
  simp only [Act.put, List.setIfInBounds_toArray, List.set_cons_zero, List.set_cons_succ]
  go_wp2
  go_ret
  exact ⟨rfl, HGF.out⟩
end Go.Proofs.YthicondcjeipfaaGreatDoor

namespace Go.Proofs.YthicondcjeipfaaGreatDoor
open Go Go.RowKit Go.Shelf

set_option maxHeartbeats 1000000 in
theorem drowFits_any (p : Par) (vm vl : Value) (m : List (List (List Int))) (x : Int) (l : List (List (Int × Int))) (X Y : Nat → Prop) (w : World) (hp : p.ok) (h1 : Sl (encS (encS encU)) X w vm m) (hx : U64 x) (h2 : Sl (encS encP) Y w vl l) (hb1 : m.length ≤ 100000) (hb2 : ∀ l ∈ m, l.length ≤ 100000 ∧ ∀ c ∈ l, c.length ≤ 100000) (hb : l.length ≤ 1000) (hb3 : ∀ c ∈ l, c.length ≤ 1000) :
    Calls Tryz.prog 10 #[p.v, vm, .int .u64 x, vl] w fun e w' => e = .returned (.bool (dfitsB p l (rowComsI p m x))) ∧ w.grownBy w' none := by
  obtain ⟨Am, nm, cm, rfl⟩ := h1.shape
  obtain ⟨Al, nl, cl, rfl⟩ := h2.shape
  obtain ⟨w0, hw0⟩ : ∃ y, y = w.alloc (Obj.cells p.cells 24) := ⟨_, rfl⟩
  have HB0 : Hid (Bk w0 w.heap.size 24 p.cells) := Lib.hid (by rw [hw0]; exact Bk.new w _ _)
  have HG0 : Hid (w.grownBy w0 none) := Lib.hid (by rw [hw0]; exact World.grownBy_alloc w _ none)
  have HGd : Hid (w.grownBy w0.drew none) := Lib.hid (HG0.out.trans (grown_drewN' w0 1))
  have HPR : Hid (∀ W, w0.drew.grownBy W none → ∀ o, W.cell? ⟨w.heap.size, o, none⟩ = (#[.int .u64 p.P, .int .u64 p.Q, .int .u64 p.G, .int .u64 p.H, .int .i64 p.Nodes, .int .i64 p.N, .int .i64 p.T, .int .i64 p.K, .int .i64 p.D, .int .i64 p.R, .int .i64 p.M, .int .i64 p.X] : Array Value)[o]?) := Lib.hid (fun W hW => (HB0.out.grown ((grown_drewN' w0 1).trans hW) (by simp)).prule)
  have HRC : Hid (∀ W, w0.drew.grownBy W none → Calls Tryz.prog 33 #[p.v, .slice Am nm cm, .int .u64 x] W (Gives (encS encU) (fun g => W.heap.size ≤ g) W (rowComsI p m x))) := Lib.hid (fun W hW => rowComs_any p _ m x X W (h1.kept (HGd.out.trans hW)) hx hb1 hb2)
  have HFT : Hid (∀ W v, w0.drew.grownBy W none → Sl (encS encU) TT W v (rowComsI p m x) → Calls Tryz.prog 32 #[p.v, .slice Al nl cl, v] W fun e w' => e = .returned (.bool (dfitsB p l (rowComsI p m x))) ∧ W.grownBy w' none) := Lib.hid (fun W v hW hv => dfits_any p _ v l _ Y TT W hp (h2.kept (HGd.out.trans hW)) hv hb hb3)
  obtain ⟨R, hR⟩ : ∃ R, R = rowComsI p m x := ⟨_, rfl⟩
  rw [← hR] at HRC HFT ⊢
  obtain ⟨B, hB⟩ : ∃ B, B = dfitsB p l R := ⟨_, rfl⟩
  rw [← hB] at HFT ⊢
  clear h1 h2 hp hx hb1 hb2 hb hb3 hR hB
  go_enter Tryz.func10, Tryz.ntmps10
  go_upto_region 1 with (fail)
  rw [← hw0]
  clear hw0
  refine wp_region_mono 7 (by kernel_rfl) (by kernel_rfl) ?_
  -- op 0 (slot 9): load
  refine MonoR.step (Pv.eq (p.v)) [] (by kernel_rfl) (fun w' hw' => ?_) ?_
  · refine ask_do rfl fun K hK => ?_
    have hp := HPR.out w' hw'
    go_simp
    exact hK _ _ rfl rfl (World.grownBy.refl _ none)
  -- op 1 (slot 10): move
  refine MonoR.step (Pv.eq (.slice Al nl cl)) [] (by kernel_rfl) (fun w' hw' => ?_) ?_
  · refine ask_do rfl fun K hK => ?_
    go_simp
    exact hK _ _ rfl rfl (World.grownBy.refl _ none)
  -- op 2 (slot 11): load
  refine MonoR.step (Pv.eq (p.v)) [] (by kernel_rfl) (fun w' hw' => ?_) ?_
  · refine ask_do rfl fun K hK => ?_
    have hp := HPR.out w' hw'
    go_simp
    exact hK _ _ rfl rfl (World.grownBy.refl _ none)
  -- op 3 (slot 12): move
  refine MonoR.step (Pv.eq (.slice Am nm cm)) [] (by kernel_rfl) (fun w' hw' => ?_) ?_
  · refine ask_do rfl fun K hK => ?_
    go_simp
    exact hK _ _ rfl rfl (World.grownBy.refl _ none)
  -- op 4 (slot 13): move
  refine MonoR.step (Pv.eq (.int .u64 x)) [] (by kernel_rfl) (fun w' hw' => ?_) ?_
  · refine ask_do rfl fun K hK => ?_
    go_simp
    exact hK _ _ rfl rfl (World.grownBy.refl _ none)
  -- op 5 (slot 14): call
  refine MonoR.step (Pv.sl (encS encU) TT R) [(2, 11), (3, 12), (4, 13)] (by kernel_rfl) (fun w' hw' => ?_) ?_
  · intro x11 h11
    intro x12 h12
    intro x13 h13
    have e11 : x11 = p.v := h11
    clear h11
    subst e11
    have e12 : x12 = .slice Am nm cm := h12
    clear h12
    subst e12
    have e13 : x13 = .int .u64 x := h13
    clear h13
    subst e13
    refine ask_do rfl fun K hK => ?_
    go_simp
    refine (HRC.out w' hw').mono ?_
    rintro e w3 ⟨v3, rfl, h3, hg⟩
    exact hK _ _ rfl (h3.more (fun _ _ _ => trivial)) hg
  -- op 6 (slot 15): call
  refine MonoR.step (Pv.eq (.bool B)) [(0, 9), (1, 10), (5, 14)] (by kernel_rfl) (fun w' hw' => ?_) ?_
  · intro x9 h9
    intro x10 h10
    intro x14 h14
    have h14 : Sl (encS encU) TT w' x14 R := h14
    obtain ⟨A14, c14, e14, k14, l14⟩ := h14.form
    have e14 : x14 = .slice A14 R.length c14 := e14
    subst e14
    have e9 : x9 = p.v := h9
    clear h9
    subst e9
    have e10 : x10 = .slice Al nl cl := h10
    clear h10
    subst e10
    refine ask_do rfl fun K hK => ?_
    go_simp
    refine (HFT.out w' _ hw' h14).mono ?_
    rintro e w3 ⟨rfl, hg⟩
    exact hK _ _ rfl rfl hg
  
  intro w5 hw5
  intro y0 k0 y1 k1 y2 k2 y3 k3 y4 k4 y5 k5 y6 k6
  have e6 : y6 = .bool B := k6
  subst e6
  have HGF : Hid (w.grownBy w5 none) := Lib.hid (HGd.out.trans hw5)
  clear k0 k1 k2 k3 k4 k5 k6 hw5 HRC HFT HPR
  show wpList Tryz.prog _ _ _ _ w5
  simp only [Act.put, List.setIfInBounds_toArray, List.set_cons_zero, List.set_cons_succ]
  go_wp2_with fail
  go_ret
  exact ⟨rfl, HGF.out⟩
set_option maxHeartbeats 1000000 in
theorem dcolFits_any (p : Par) (vm vl : Value) (m : List (List (List Int))) (x : Int) (l : List (List (Int × Int))) (X Y : Nat → Prop) (w : World) (hp : p.ok) (h1 : Sl (encS (encS encU)) X w vm m) (hx : U64 x) (h2 : Sl (encS encP) Y w vl l) (hb1 : m.length ≤ 100000) (hb2 : ∀ l ∈ m, l.length ≤ 100000 ∧ ∀ c ∈ l, c.length ≤ 100000) (hb : l.length ≤ 1000) (hb3 : ∀ c ∈ l, c.length ≤ 1000) :
    Calls Tryz.prog 11 #[p.v, vm, .int .u64 x, vl] w fun e w' => e = .returned (.bool (dfitsB p l (colComsI p m x))) ∧ w.grownBy w' none := by
  obtain ⟨Am, nm, cm, rfl⟩ := h1.shape
  obtain ⟨Al, nl, cl, rfl⟩ := h2.shape
  obtain ⟨w0, hw0⟩ : ∃ y, y = w.alloc (Obj.cells p.cells 24) := ⟨_, rfl⟩
  have HB0 : Hid (Bk w0 w.heap.size 24 p.cells) := Lib.hid (by rw [hw0]; exact Bk.new w _ _)
  have HG0 : Hid (w.grownBy w0 none) := Lib.hid (by rw [hw0]; exact World.grownBy_alloc w _ none)
  have HGd : Hid (w.grownBy w0.drew none) := Lib.hid (HG0.out.trans (grown_drewN' w0 1))
  have HPR : Hid (∀ W, w0.drew.grownBy W none → ∀ o, W.cell? ⟨w.heap.size, o, none⟩ = (#[.int .u64 p.P, .int .u64 p.Q, .int .u64 p.G, .int .u64 p.H, .int .i64 p.Nodes, .int .i64 p.N, .int .i64 p.T, .int .i64 p.K, .int .i64 p.D, .int .i64 p.R, .int .i64 p.M, .int .i64 p.X] : Array Value)[o]?) := Lib.hid (fun W hW => (HB0.out.grown ((grown_drewN' w0 1).trans hW) (by simp)).prule)
  have HRC : Hid (∀ W, w0.drew.grownBy W none → Calls Tryz.prog 34 #[p.v, .slice Am nm cm, .int .u64 x] W (Gives (encS encU) (fun g => W.heap.size ≤ g) W (colComsI p m x))) := Lib.hid (fun W hW => colComs_any p _ m x X W (h1.kept (HGd.out.trans hW)) hx hb1 (fun l hl => (hb2 l hl).1))
  have HFT : Hid (∀ W v, w0.drew.grownBy W none → Sl (encS encU) TT W v (colComsI p m x) → Calls Tryz.prog 32 #[p.v, .slice Al nl cl, v] W fun e w' => e = .returned (.bool (dfitsB p l (colComsI p m x))) ∧ W.grownBy w' none) := Lib.hid (fun W v hW hv => dfits_any p _ v l _ Y TT W hp (h2.kept (HGd.out.trans hW)) hv hb hb3)
  obtain ⟨R, hR⟩ : ∃ R, R = colComsI p m x := ⟨_, rfl⟩
  rw [← hR] at HRC HFT ⊢
  obtain ⟨B, hB⟩ : ∃ B, B = dfitsB p l R := ⟨_, rfl⟩
  rw [← hB] at HFT ⊢
  clear h1 h2 hp hx hb1 hb2 hb hb3 hR hB
  go_enter Tryz.func11, Tryz.ntmps11
  go_upto_region 1 with (fail)
  rw [← hw0]
  clear hw0
  refine wp_region_mono 7 (by kernel_rfl) (by kernel_rfl) ?_
  -- op 0 (slot 9): load
  refine MonoR.step (Pv.eq (p.v)) [] (by kernel_rfl) (fun w' hw' => ?_) ?_
  · refine ask_do rfl fun K hK => ?_
    have hp := HPR.out w' hw'
    go_simp
    exact hK _ _ rfl rfl (World.grownBy.refl _ none)
  -- op 1 (slot 10): move
  refine MonoR.step (Pv.eq (.slice Al nl cl)) [] (by kernel_rfl) (fun w' hw' => ?_) ?_
  · refine ask_do rfl fun K hK => ?_
    go_simp
    exact hK _ _ rfl rfl (World.grownBy.refl _ none)
  -- op 2 (slot 11): load
  refine MonoR.step (Pv.eq (p.v)) [] (by kernel_rfl) (fun w' hw' => ?_) ?_
  · refine ask_do rfl fun K hK => ?_
    have hp := HPR.out w' hw'
    go_simp
    exact hK _ _ rfl rfl (World.grownBy.refl _ none)
  -- op 3 (slot 12): move
  refine MonoR.step (Pv.eq (.slice Am nm cm)) [] (by kernel_rfl) (fun w' hw' => ?_) ?_
  · refine ask_do rfl fun K hK => ?_
    go_simp
    exact hK _ _ rfl rfl (World.grownBy.refl _ none)
  -- op 4 (slot 13): move
  refine MonoR.step (Pv.eq (.int .u64 x)) [] (by kernel_rfl) (fun w' hw' => ?_) ?_
  · refine ask_do rfl fun K hK => ?_
    go_simp
    exact hK _ _ rfl rfl (World.grownBy.refl _ none)
  -- op 5 (slot 14): call
  refine MonoR.step (Pv.sl (encS encU) TT R) [(2, 11), (3, 12), (4, 13)] (by kernel_rfl) (fun w' hw' => ?_) ?_
  · intro x11 h11
    intro x12 h12
    intro x13 h13
    have e11 : x11 = p.v := h11
    clear h11
    subst e11
    have e12 : x12 = .slice Am nm cm := h12
    clear h12
    subst e12
    have e13 : x13 = .int .u64 x := h13
    clear h13
    subst e13
    refine ask_do rfl fun K hK => ?_
    go_simp
    refine (HRC.out w' hw').mono ?_
    rintro e w3 ⟨v3, rfl, h3, hg⟩
    exact hK _ _ rfl (h3.more (fun _ _ _ => trivial)) hg
  -- op 6 (slot 15): call
  refine MonoR.step (Pv.eq (.bool B)) [(0, 9), (1, 10), (5, 14)] (by kernel_rfl) (fun w' hw' => ?_) ?_
  · intro x9 h9
    intro x10 h10
    intro x14 h14
    have h14 : Sl (encS encU) TT w' x14 R := h14
    obtain ⟨A14, c14, e14, k14, l14⟩ := h14.form
    have e14 : x14 = .slice A14 R.length c14 := e14
    subst e14
    have e9 : x9 = p.v := h9
    clear h9
    subst e9
    have e10 : x10 = .slice Al nl cl := h10
    clear h10
    subst e10
    refine ask_do rfl fun K hK => ?_
    go_simp
    refine (HFT.out w' _ hw' h14).mono ?_
    rintro e w3 ⟨rfl, hg⟩
    exact hK _ _ rfl rfl hg
  
  intro w5 hw5
  intro y0 k0 y1 k1 y2 k2 y3 k3 y4 k4 y5 k5 y6 k6
  have e6 : y6 = .bool B := k6
  subst e6
  have HGF : Hid (w.grownBy w5 none) := Lib.hid (HGd.out.trans hw5)
  clear k0 k1 k2 k3 k4 k5 k6 hw5 HRC HFT HPR
  show wpList Tryz.prog _ _ _ _ w5
  simp only [Act.put, List.setIfInBounds_toArray, List.set_cons_zero, List.set_cons_succ]
  go_wp2_with fail
  go_ret
  exact ⟨rfl, HGF.out⟩
end Go.Proofs.YthicondcjeipfaaGreatDoor

namespace Go.Proofs.YthicondcjeipfaaGreatDoor
open Go.ChangeShapes Go.WideShapes Go.RowKit

end Go.Proofs.YthicondcjeipfaaGreatDoor

namespace Go.Proofs.YthicondcjeipfaaGreatDoor
open Go.ChangeShapes Go.WideShapes Go.RowKit

/-- Whatever is read at this type, each of its slices no larger than the address space, reads so. -/
def ReadsZ {α : Type} (E : Enc α) (t : TypeId) (G : α → Prop) : Prop :=
  ∀ {H : Type} {enc : TypeId × Value → H} {w : World} {base : Nat} {spare : Nat → Bool} {held : Bool} {fuel : Nat} {cs : List Value} {x : DataW H × List MemPlace},
    DataW.trod enc Tryz.prog w base spare held fuel t cs = some x → (∀ b ∈ x.1.weights Tryz.prog t, b ≤ reachBytes) → ∃ a, E.rep (fun _ => True) w cs a ∧ G a
theorem Reads.z {α : Type} {E : Enc α} {t : TypeId} (h : Reads E t) : ReadsZ E t (fun _ => True) := fun ht _ => by
  obtain ⟨a, ha⟩ := h ht
  exact ⟨a, ha, trivial⟩
end Go.Proofs.YthicondcjeipfaaGreatDoor

namespace Go.Proofs.YthicondcjeipfaaGreatDoor
open Go Go.RowKit Go.Shelf

set_option maxHeartbeats 1000000 in
theorem dpackG_any (vm va vb : Value) (M : List (List (List Int))) (a b : List (List (Int × Int))) (X Y Z : Nat → Prop) (w : World) (hm : Sl (encS (encS encU)) X w vm M) (ha : Sl (encS encP) Y w va a) (hb : Sl (encS encP) Z w vb b)
    (hk : PackOk M a b) :
    Calls Tryz.prog 20 #[vm, va, vb] w (Gives encU (fun g => w.heap.size ≤ g) w (packI M a b)) := by
  have HM := Lib.hid hm
  have HA := Lib.hid ha
  have HB := Lib.hid hb
  obtain ⟨m1, m2, m3, m4, m5, a1, a2, fa, b1, b2, fb⟩ := hk
  have M1 := Lib.hid (And.intro m1 m2)
  have A1 := Lib.hid (And.intro a1 a2)
  have B1 := Lib.hid (And.intro b1 b2)
  obtain ⟨Am, nm, cm, rfl⟩ := hm.shape
  obtain ⟨Aa, na, ca, rfl⟩ := ha.shape
  obtain ⟨Ab, nb, cb, rfl⟩ := hb.shape
  obtain ⟨mx, mt, hx, hpr⟩ : ∃ (x : List (List Int)) (t : List Int), M.flatten = x ∧ x.flatten = t := ⟨_, _, rfl, rfl⟩
  have fl1 : mx.length ≤ 300 ∧ ∀ y ∈ mx, y.length ≤ 300 := by rw [← hx]; exact ⟨m3, m4⟩
  have fl2 : mt.length ≤ 300 := by rw [← hpr, ← hx]; exact m5
  have F1 := Lib.hid fl1
  have F2 := Lib.hid fl2
  have FA := Lib.hid fa
  have FB := Lib.hid fb
  have HMX : Hid (M.flatten = mx ∧ mx.flatten = mt) := Lib.hid ⟨hx, hpr⟩
  clear hm ha hb m1 m2 m3 m4 m5 a1 a2 b1 b2 hx hpr fl1 fl2 fa fb
  go_enter Tryz.func20, Tryz.ntmps20
  go_wp2_with fail
  refine (flatR_any _ M X w HM.out (by have := M1.out.1; omega) (fun x hx => by have := M1.out.2 x hx; omega)).mono ?_
  rintro e w1 ⟨v1, rfl, hs1, hg1⟩
  have HG1 := Lib.hid hg1
  rw [HMX.out.1] at hs1
  have HS1 := Lib.hid hs1
  obtain ⟨Ax, nx, cx, rfl⟩ := hs1.shape
  clear hs1 hg1
  go_wp2_with fail
  refine (flatU_any _ mx TT w1 HS1.out (by have := F1.out.1; omega) (fun x hx => by have := F1.out.2 x hx; omega)).mono ?_
  rintro e w2 ⟨v2, rfl, hs2, hg2⟩
  have HG2 := hidTrans hg2 HG1
  rw [HMX.out.2] at hs2
  have HT2 : Hid (Sl encU (fun g => w.heap.size ≤ g) w2 v2 mt) := Lib.hid (hs2.more fun g _ h => Nat.le_trans HG1.out.size h)
  obtain ⟨Ay, ny, cy, rfl⟩ := hs2.shape
  clear hs2 hg2
  go_wp2_with fail
  refine (flatP_any _ a Y w2 (HA.out.kept HG2.out) (by have := A1.out.1; omega) (fun x hx => by have := A1.out.2 x hx; omega)).mono ?_
  rintro e w3 ⟨v3, rfl, hs3, hg3⟩
  have HG3 := hidTrans hg3 HG2
  have HT3 := Lib.hid (HT2.out.kept hg3)
  have HP3 := Lib.hid hs3
  obtain ⟨Az, nz, cz, rfl⟩ := hs3.shape
  clear hs3 hg3 HT2
  go_wp2_with fail
  refine (dpairs_any _ a.flatten _ w3 HP3.out (by have := FA.out; omega)).mono ?_
  rintro e w4 ⟨v4, rfl, hs4, hg4⟩
  have HT4 := Lib.hid (HT3.out.kept hg4)
  have HA4 : Hid (Sl encU (fun g => w.heap.size ≤ g) w4 v4 (prsN a.flatten)) := Lib.hid (hs4.more fun g _ h => Nat.le_trans HG3.out.size h)
  have HG4 := hidTrans hg4 HG3
  obtain ⟨Au, nu, cu, rfl⟩ := hs4.shape
  clear hs4 hg4 HT3 HP3
  go_wp2_with fail
  refine (flatP_any _ b Z w4 (HB.out.kept HG4.out) (by have := B1.out.1; omega) (fun x hx => by have := B1.out.2 x hx; omega)).mono ?_
  rintro e w5 ⟨v5, rfl, hs5, hg5⟩
  have HG5 := hidTrans hg5 HG4
  have HT5 := Lib.hid (HT4.out.kept hg5)
  have HA5 := Lib.hid (HA4.out.kept hg5)
  have HP5 := Lib.hid hs5
  obtain ⟨Av, nv, cv, rfl⟩ := hs5.shape
  clear hs5 hg5 HT4 HA4
  go_wp2_with fail
  refine (dpairs_any _ b.flatten _ w5 HP5.out (by have := FB.out; omega)).mono ?_
  rintro e w6 ⟨v6, rfl, hs6, hg6⟩
  have HG6 := hidTrans hg6 HG5
  have HT6 := Lib.hid (HT5.out.kept hg6)
  have HA6 := Lib.hid (HA5.out.kept hg6)
  have HB6 := Lib.hid hs6
  obtain ⟨Aw, nw, cw, rfl⟩ := hs6.shape
  have HTL : Hid (Sl (encS encU) TT (w6.alloc (Obj.cells #[.slice Ay ny cy, .slice Au nu cu, .slice Aw nw cw] 29)) (.slice (some ⟨w6.heap.size, 0, none⟩) 3 3) [mt, prsN a.flatten, prsN b.flatten]) := Lib.hid (Sl.build [[.slice Ay ny cy], [.slice Au nu cu], [.slice Aw nw cw]] rfl ⟨⟨_, rfl, HT6.out.more fun _ _ _ => trivial⟩, ⟨_, rfl, HA6.out.more fun _ _ _ => trivial⟩, ⟨_, rfl, hs6.more fun _ _ _ => trivial⟩, trivial⟩ rfl (by decide))
  obtain ⟨w7, hw7⟩ : ∃ y, y = w6.alloc (Obj.cells #[.slice Ay ny cy, .slice Au nu cu, .slice Aw nw cw] 29) := ⟨_, rfl⟩
  have HG7 : Hid (w.grownBy w7 none) := Lib.hid (by rw [hw7]; exact HG6.out.trans (World.grownBy_alloc _ _ none))
  rw [← hw7] at HTL
  clear hs6 hg6 HT5 HA5 HP5 HT6 HA6 HB6
  go_wp2_with fail
  rw [← hw7]
  clear hw7
  refine (flatU_any _ [mt, prsN a.flatten, prsN b.flatten] TT w7 HTL.out (by simp) (fun x hx => by
    simp only [List.mem_cons, List.not_mem_nil, or_false] at hx
    rcases hx with rfl | rfl | rfl
    · have := F2.out; omega
    · rw [prsN_len]; have := FA.out; omega
    · rw [prsN_len]; have := FB.out; omega)).mono ?_
  rintro e w8 ⟨v8, rfl, hs8, hg8⟩
  have HR : Hid (Sl encU (fun g => w.heap.size ≤ g) w8 v8 (packI M a b) ∧ w.grownBy w8 none) := Lib.hid ⟨by
    unfold packI
    rw [HMX.out.1, HMX.out.2]
    exact hs8.more fun g _ h => Nat.le_trans HG7.out.size h, HG7.out.trans hg8⟩
  clear hs8 hg8 HTL
  go_wp2
  go_ret
  exact ⟨_, rfl, HR.out⟩
end Go.Proofs.YthicondcjeipfaaGreatDoor

namespace Go.Proofs.YthicondcjeipfaaGreatDoor
open Go Go.RowKit

/-- A piece of numbers. -/
theorem Sl.piece {X : Nat → Prop} {w : World} {g o n c : Nat} {l : List Int} (h : Sl encU X w (.slice (some ⟨g, o, none⟩) n c) l) (a m : Nat) (hm : 0 < m) (ha : a + m ≤ l.length) : Sl encU X w (.slice (some ⟨g, o + a, none⟩) m m) ((l.drop a).take m) := by
  obtain ⟨A, c', e, h1, h2, h3⟩ := h
  injection e with e1 e2 e3
  subst e1 e3
  have hl : ((l.drop a).take m).length = m := by simp; omega
  obtain ⟨g', o', eA, lt, hX, hi⟩ := h3 (by intro e; rw [e] at ha; simp at ha; omega)
  injection eA with eA
  injection eA with eA1 eA2 _
  subst eA1 eA2
  refine ⟨_, m, by rw [hl], by rw [hl]; exact Nat.le_refl _, by omega, fun _ => ⟨g, o + a, rfl, lt, hX, fun i hi' => ?_⟩⟩
  have hi2 : i < m := by rw [hl] at hi'; exact hi'
  obtain ⟨cs, hr, hc⟩ := hi (a + i) (by omega)
  refine ⟨cs, ?_, fun j u hu => ?_⟩
  · have e : ((l.drop a).take m)[i] = l[a + i] := by simp
    rw [e]
    exact hr
  · have := hc j u hu
    rw [show o + a + i * encU.size + j = o + (a + i) * encU.size + j by show o + a + i * 1 + j = o + (a + i) * 1 + j; omega]
    exact this
/-- The pieces of a polynomial of two, of which the first j are laid. -/
def cellsT (gb ob t j : Nat) : List Value := (List.range t).map fun i => if i < j then .slice (some ⟨gb, ob + i * t, none⟩) t t else .slice none 0 0
theorem cellsT_set (gb ob t j : Nat) : (cellsT gb ob t j).set j (.slice (some ⟨gb, ob + j * t, none⟩) t t) = cellsT gb ob t (j + 1) := by
  refine List.ext_getElem (by simp [cellsT]) fun k h1 h2 => ?_
  rw [List.getElem_set]
  simp only [cellsT, List.getElem_map, List.getElem_range]
  split
  · rename_i e
    subst e
    rw [if_pos (by omega)]
  · rename_i e
    by_cases h : k < j
    · rw [if_pos h, if_pos (by omega)]
    · rw [if_neg h, if_neg (by omega)]
theorem pieces_sl {X : Nat → Prop} {w : World} {gb ob n c t Bo : Nat} {l : List Int} (h : Sl encU X w (.slice (some ⟨gb, ob, none⟩) n c) l) (ht : 0 < t) (ht2 : t ≤ 100) (hl : l.length = t * t) (hb : Bk w Bo 29 (cellsT gb ob t t).toArray) (hX : X Bo) : Sl (encS encU) X w (.slice (some ⟨Bo, 0, none⟩) t t) (chk t l t) := by
  have hlen : (chk t l t).length = t := chk_length _ _ _
  have := Sl.block (E := encS encU) (X := X) (xs := chk t l t) (c := t) hb hX ((cellsT gb ob t t).map fun v => [v]) (by simp [cellsT, hlen]) (fun i hi hi' => by
    have hit : i < t := by rw [hlen] at hi; exact hi
    have ha : i * t + t ≤ l.length := by
      rw [hl]
      have := Nat.mul_le_mul_right t (show i + 1 ≤ t from hit)
      rw [Nat.add_mul, Nat.one_mul] at this
      exact this
    have e1 : (chk t l t)[i] = (l.drop (i * t)).take t := by simp [chk]
    have e2 : ((cellsT gb ob t t).map fun v => [v])[i] = [.slice (some ⟨gb, ob + i * t, none⟩) t t] := by simp [cellsT, hit]
    rw [e1, e2]
    exact ⟨_, rfl, h.piece (i * t) t ht ha⟩) (by rw [flatten_singles]) (by rw [hlen]; exact Nat.le_refl _) (by omega)
  rwa [hlen] at this
set_option maxRecDepth 100000 in
set_option maxHeartbeats 4000000 in
theorem two2_any {pa : Option Addr} {g : Nat} {dr : Nat → Int} {TI : Nat → World → Prop} {bl : Nat → Prop} {most : Nat} (p : Par) (hT : TpP pa g p.Q dr TI bl most) (x : Int) (k : Nat) (w : World) (hx : U64 x) (hq : U64 p.Q) (hq0 : 0 < p.Q) (ht : p.T = 1) (hk : k + 3 ≤ most) (hI : TI k w) :
    Calls Tryz.prog 26 #[p.v, .int .u64 x, .func (.func 27) #[.pointer pa] #[]] w fun e w' => ∃ v, e = .returned v ∧ Sl (encS encU) (fun b => w.heap.size ≤ b) w' v (chk 2 (behI x p.Q dr 3 k) 2) ∧ TI (k + 3) w' ∧ w.grownBy w' (some g) := by
  obtain ⟨w0, hw0⟩ : ∃ y, y = w.alloc (Obj.cells p.cells 24) := ⟨_, rfl⟩
  have HG0 : Hid (w.grownBy w0 none) := Lib.hid (by rw [hw0]; exact World.grownBy_alloc w _ none)
  have HB0 : Hid (Bk w0 w.heap.size 24 p.cells) := Lib.hid (by rw [hw0]; exact Bk.new w _ _)
  have HI0 : Hid (TI k w0) := Lib.hid (hT.keep hI HG0.out (by simp))
  have HBH := Lib.hid (behind_any hT x 3 k w0 hx hq hq0 (by decide) hk HI0.out)
  have hp0 := HB0.out.prule
  have HT := Lib.hid hT
  have HOB : Hid (∀ b, bl b → b < w.heap.size) := Lib.hid (fun b hb => hT.old hI hb)
  have HGW : Hid (g < w.heap.size) := Lib.hid (hT.old hI hT.own)
  clear hT hI hx hq hq0
  go_enter Tryz.func26, Tryz.ntmps26
  go_wp2_with fail
  rw [← hw0]
  clear hw0
  go_wp2_with fail
  refine HBH.out.mono ?_
  rintro e w1 ⟨v8, rfl, hs1, hi1, hg1⟩
  obtain ⟨A8, c8, e8, hc8, hc8b⟩ := hs1.form
  rw [behI_len] at e8 hc8
  obtain ⟨gb, ob, c8', e8', hgb, hgb2, _, _⟩ := hs1.atU (k := 0) (by rw [behI_len]; decide)
  rw [e8] at e8'
  injection e8' with e81 e82 e83
  subst e81
  have e8 : v8 = .slice (some ⟨gb, ob, none⟩) 4 c8 := e8
  have hc8 : 4 ≤ c8 := hc8
  subst e8
  have HS1 := Lib.hid hs1
  have HI1 := Lib.hid hi1
  have HG1 : Hid (w.grownBy w1 (some g)) := Lib.hid ((HG0.out.but _).trans hg1)
  have HBB : Hid (w.heap.size ≤ gb ∧ gb < w1.heap.size) := Lib.hid ⟨Nat.le_trans HG0.out.size hgb2, hgb⟩
  have hmk := run_make_row' (P := Tryz.prog) 47 29 (.slice none 0 0) 24 Tryz.underlying47 info_nums rfl .i64 .i64 2 (by decide) (by decide) w1
  have hmk : (Instr.makeSlice 47 (.int .i64 2) (.int .i64 2)).run Tryz.prog w1 = .ok (.slice (some ⟨w1.heap.size, 0, none⟩) 2 2) (w1.alloc (.cells (madeCells #[.slice none 0 0] 2) 29)) := hmk
  obtain ⟨D0, hD0⟩ : ∃ y, y = w1.alloc (.cells (madeCells #[.slice none 0 0] 2) 29) := ⟨_, rfl⟩
  obtain ⟨Bo, hBo⟩ : ∃ y, y = w1.heap.size := ⟨_, rfl⟩
  have HGD : Hid (w1.grownBy D0 none) := Lib.hid (by rw [hD0]; exact World.grownBy_alloc _ _ none)
  have HBO : Hid (Bk D0 Bo 29 (cellsT gb ob 2 0).toArray) := Lib.hid (by
    rw [hD0, hBo]
    exact (Bk.new w1 29 (madeCells #[.slice none 0 0] 2)).of_eq (Array.toList_inj.1 (by rw [toList_madeCells_one]; rfl)))
  have HBS : Hid (Bo = w1.heap.size) := Lib.hid hBo
  have hp1 : ∀ o, w1.cell? ⟨w.heap.size, o, none⟩ = (#[.int .u64 p.P, .int .u64 p.Q, .int .u64 p.G, .int .u64 p.H, .int .i64 p.Nodes, .int .i64 p.N, .int .i64 p.T, .int .i64 p.K, .int .i64 p.D, .int .i64 p.R, .int .i64 p.M, .int .i64 p.X] : Array Value)[o]? := (HB0.out.grown hg1 (fun e => by injection e with e; have := HGW.out; omega)).prule
  clear hs1 hi1 hg1 hgb hgb2 e82 e83 hc8b
  go_upto_region 5 with (fail)
  rw [← hD0, ← hBo]
  clear hD0 hBo hmk hp1
  go_loopg [27] 2 (fun gk s27 wx => ∃ j : Nat, j + gk = 2 ∧ s27 = .int .i64 j ∧ Hid (Bk wx Bo 29 (cellsT gb ob 2 j).toArray ∧ D0.grownBy wx (some Bo)))
  case atStart => exact ⟨0, by omega, rfl, Lib.hid ⟨HBO.out, World.grownBy.refl _ _⟩⟩
  case round =>
    obtain ⟨j, hj, rfl, HX⟩ := hrel
    cases gk with
    | zero =>
      obtain rfl : j = 2 := by omega
      have hno : ¬ ((2 : Int) < 2) := by omega
      have HR : Hid (Sl (encS encU) (fun b => w.heap.size ≤ b) wr (.slice (some ⟨Bo, 0, none⟩) 2 2) (chk 2 (behI x p.Q dr 3 k) 2) ∧ TI (k + 3) wr ∧ w.grownBy wr (some g)) := Lib.hid (by
        have hs := ((HS1.out.bounded.kept HGD.out).keep HX.out.2 (fun b hb e => by injection e with e; have := HBS.out; have := hb.2; omega)).more (Y := fun b => w.heap.size ≤ b) fun b _ hb => Nat.le_trans HG0.out.size hb.1
        refine ⟨pieces_sl hs (by decide) (by decide) (by rw [behI_len]) HX.out.1 (by have := HBB.out; have := HBS.out; omega), HT.out.keep (HT.out.keep HI1.out HGD.out (by simp)) HX.out.2 (fun b e hb => by injection e with e; have := HOB.out b hb; have := HBB.out; have := HBS.out; omega), (HG1.out.trans (HGD.out.but _)).andThen HX.out.2 (fun b e => .inl (by injection e with e; have := HBB.out; have := HBS.out; omega))⟩)
      clear HX
      go_wp2
      go_ret
      exact ⟨_, rfl, HR.out⟩
    | succ m =>
      have hj2 : j < 2 := by omega
      have hjI : (j : Int) < 2 := by omega
      have hj0 : (0 : Int) ≤ (j : Int) := Int.natCast_nonneg j
      have hb := HX.out.1
      have c0 : wr.cell? ⟨Bo, j, none⟩ = some (.slice none 0 0) := by rw [hb.cell j]; simp [cellsT, hj2]
      have f0 := hb.free
      have HFIN : Hid (Bk (wr.setCell ⟨Bo, j, none⟩ (.slice (some ⟨gb, ob + j * 2, none⟩) ((j + 1) * 2 - j * 2) ((j + 1) * 2 - j * 2))) Bo 29 (cellsT gb ob 2 (j + 1)).toArray ∧ D0.grownBy (wr.setCell ⟨Bo, j, none⟩ (.slice (some ⟨gb, ob + j * 2, none⟩) ((j + 1) * 2 - j * 2) ((j + 1) * 2 - j * 2))) (some Bo)) := Lib.hid ⟨(hb.set j _).of_eq (by
        rw [show (j + 1) * 2 - j * 2 = 2 by omega, ← cellsT_set]
        simp), HX.out.2.trans (grownSet wr Bo _ _)⟩
      clear hb
      go_wp2_with fail
      go_roundg m
      case measure => omega
      case rel => exact ⟨j + 1, by omega, by go_num, HFIN⟩
set_option maxRecDepth 100000 in
set_option maxHeartbeats 4000000 in
theorem two3_any {pa : Option Addr} {g : Nat} {dr : Nat → Int} {TI : Nat → World → Prop} {bl : Nat → Prop} {most : Nat} (p : Par) (hT : TpP pa g p.Q dr TI bl most) (x : Int) (k : Nat) (w : World) (hx : U64 x) (hq : U64 p.Q) (hq0 : 0 < p.Q) (ht : p.T = 2) (hk : k + 8 ≤ most) (hI : TI k w) :
    Calls Tryz.prog 26 #[p.v, .int .u64 x, .func (.func 27) #[.pointer pa] #[]] w fun e w' => ∃ v, e = .returned v ∧ Sl (encS encU) (fun b => w.heap.size ≤ b) w' v (chk 3 (behI x p.Q dr 8 k) 3) ∧ TI (k + 8) w' ∧ w.grownBy w' (some g) := by
  obtain ⟨w0, hw0⟩ : ∃ y, y = w.alloc (Obj.cells p.cells 24) := ⟨_, rfl⟩
  have HG0 : Hid (w.grownBy w0 none) := Lib.hid (by rw [hw0]; exact World.grownBy_alloc w _ none)
  have HB0 : Hid (Bk w0 w.heap.size 24 p.cells) := Lib.hid (by rw [hw0]; exact Bk.new w _ _)
  have HI0 : Hid (TI k w0) := Lib.hid (hT.keep hI HG0.out (by simp))
  have HBH := Lib.hid (behind_any hT x 8 k w0 hx hq hq0 (by decide) hk HI0.out)
  have hp0 := HB0.out.prule
  have HT := Lib.hid hT
  have HOB : Hid (∀ b, bl b → b < w.heap.size) := Lib.hid (fun b hb => hT.old hI hb)
  have HGW : Hid (g < w.heap.size) := Lib.hid (hT.old hI hT.own)
  clear hT hI hx hq hq0
  go_enter Tryz.func26, Tryz.ntmps26
  go_wp2_with fail
  rw [← hw0]
  clear hw0
  go_wp2_with fail
  refine HBH.out.mono ?_
  rintro e w1 ⟨v8, rfl, hs1, hi1, hg1⟩
  obtain ⟨A8, c8, e8, hc8, hc8b⟩ := hs1.form
  rw [behI_len] at e8 hc8
  obtain ⟨gb, ob, c8', e8', hgb, hgb2, _, _⟩ := hs1.atU (k := 0) (by rw [behI_len]; decide)
  rw [e8] at e8'
  injection e8' with e81 e82 e83
  subst e81
  have e8 : v8 = .slice (some ⟨gb, ob, none⟩) 9 c8 := e8
  have hc8 : 9 ≤ c8 := hc8
  subst e8
  have HS1 := Lib.hid hs1
  have HI1 := Lib.hid hi1
  have HG1 : Hid (w.grownBy w1 (some g)) := Lib.hid ((HG0.out.but _).trans hg1)
  have HBB : Hid (w.heap.size ≤ gb ∧ gb < w1.heap.size) := Lib.hid ⟨Nat.le_trans HG0.out.size hgb2, hgb⟩
  have hmk := run_make_row' (P := Tryz.prog) 47 29 (.slice none 0 0) 24 Tryz.underlying47 info_nums rfl .i64 .i64 3 (by decide) (by decide) w1
  have hmk : (Instr.makeSlice 47 (.int .i64 3) (.int .i64 3)).run Tryz.prog w1 = .ok (.slice (some ⟨w1.heap.size, 0, none⟩) 3 3) (w1.alloc (.cells (madeCells #[.slice none 0 0] 3) 29)) := hmk
  obtain ⟨D0, hD0⟩ : ∃ y, y = w1.alloc (.cells (madeCells #[.slice none 0 0] 3) 29) := ⟨_, rfl⟩
  obtain ⟨Bo, hBo⟩ : ∃ y, y = w1.heap.size := ⟨_, rfl⟩
  have HGD : Hid (w1.grownBy D0 none) := Lib.hid (by rw [hD0]; exact World.grownBy_alloc _ _ none)
  have HBO : Hid (Bk D0 Bo 29 (cellsT gb ob 3 0).toArray) := Lib.hid (by
    rw [hD0, hBo]
    exact (Bk.new w1 29 (madeCells #[.slice none 0 0] 3)).of_eq (Array.toList_inj.1 (by rw [toList_madeCells_one]; rfl)))
  have HBS : Hid (Bo = w1.heap.size) := Lib.hid hBo
  have hp1 : ∀ o, w1.cell? ⟨w.heap.size, o, none⟩ = (#[.int .u64 p.P, .int .u64 p.Q, .int .u64 p.G, .int .u64 p.H, .int .i64 p.Nodes, .int .i64 p.N, .int .i64 p.T, .int .i64 p.K, .int .i64 p.D, .int .i64 p.R, .int .i64 p.M, .int .i64 p.X] : Array Value)[o]? := (HB0.out.grown hg1 (fun e => by injection e with e; have := HGW.out; omega)).prule
  clear hs1 hi1 hg1 hgb hgb2 e82 e83 hc8b
  go_upto_region 5 with (fail)
  rw [← hD0, ← hBo]
  clear hD0 hBo hmk hp1
  go_loopg [27] 3 (fun gk s27 wx => ∃ j : Nat, j + gk = 3 ∧ s27 = .int .i64 j ∧ Hid (Bk wx Bo 29 (cellsT gb ob 3 j).toArray ∧ D0.grownBy wx (some Bo)))
  case atStart => exact ⟨0, by omega, rfl, Lib.hid ⟨HBO.out, World.grownBy.refl _ _⟩⟩
  case round =>
    obtain ⟨j, hj, rfl, HX⟩ := hrel
    cases gk with
    | zero =>
      obtain rfl : j = 3 := by omega
      have hno : ¬ ((3 : Int) < 3) := by omega
      have HR : Hid (Sl (encS encU) (fun b => w.heap.size ≤ b) wr (.slice (some ⟨Bo, 0, none⟩) 3 3) (chk 3 (behI x p.Q dr 8 k) 3) ∧ TI (k + 8) wr ∧ w.grownBy wr (some g)) := Lib.hid (by
        have hs := ((HS1.out.bounded.kept HGD.out).keep HX.out.2 (fun b hb e => by injection e with e; have := HBS.out; have := hb.2; omega)).more (Y := fun b => w.heap.size ≤ b) fun b _ hb => Nat.le_trans HG0.out.size hb.1
        refine ⟨pieces_sl hs (by decide) (by decide) (by rw [behI_len]) HX.out.1 (by have := HBB.out; have := HBS.out; omega), HT.out.keep (HT.out.keep HI1.out HGD.out (by simp)) HX.out.2 (fun b e hb => by injection e with e; have := HOB.out b hb; have := HBB.out; have := HBS.out; omega), (HG1.out.trans (HGD.out.but _)).andThen HX.out.2 (fun b e => .inl (by injection e with e; have := HBB.out; have := HBS.out; omega))⟩)
      clear HX
      go_wp2
      go_ret
      exact ⟨_, rfl, HR.out⟩
    | succ m =>
      have hj2 : j < 3 := by omega
      have hjI : (j : Int) < 3 := by omega
      have hj0 : (0 : Int) ≤ (j : Int) := Int.natCast_nonneg j
      have hb := HX.out.1
      have c0 : wr.cell? ⟨Bo, j, none⟩ = some (.slice none 0 0) := by rw [hb.cell j]; simp [cellsT, hj2]
      have f0 := hb.free
      have HFIN : Hid (Bk (wr.setCell ⟨Bo, j, none⟩ (.slice (some ⟨gb, ob + j * 3, none⟩) ((j + 1) * 3 - j * 3) ((j + 1) * 3 - j * 3))) Bo 29 (cellsT gb ob 3 (j + 1)).toArray ∧ D0.grownBy (wr.setCell ⟨Bo, j, none⟩ (.slice (some ⟨gb, ob + j * 3, none⟩) ((j + 1) * 3 - j * 3) ((j + 1) * 3 - j * 3))) (some Bo)) := Lib.hid ⟨(hb.set j _).of_eq (by
        rw [show (j + 1) * 3 - j * 3 = 3 by omega, ← cellsT_set]
        simp), HX.out.2.trans (grownSet wr Bo _ _)⟩
      clear hb
      go_wp2_with fail
      go_roundg m
      case measure => omega
      case rel => exact ⟨j + 1, by omega, by go_num, HFIN⟩
end Go.Proofs.YthicondcjeipfaaGreatDoor

namespace Go.Proofs.YthicondcjeipfaaGreatDoor
open Go Go.RowKit

/-- Pairs, cell by cell. -/
def pcs (l : List (Int × Int)) : List Value := l.flatMap fun x => [.int .u64 x.1, .int .u64 x.2]
theorem pcs_cons (x : Int × Int) (l : List (Int × Int)) : pcs (x :: l) = .int .u64 x.1 :: .int .u64 x.2 :: pcs l := rfl
theorem pcs_get0 : ∀ (l : List (Int × Int)) (k : Nat) (h : k < l.length), (pcs l)[k * 2]? = some (.int .u64 l[k].1)
  | x :: l, 0, _ => rfl
  | x :: l, k + 1, h => by
    rw [pcs_cons, show (k + 1) * 2 = k * 2 + 1 + 1 by omega, List.getElem?_cons_succ, List.getElem?_cons_succ]
    exact pcs_get0 l k (by simpa using h)
theorem pcs_get1 : ∀ (l : List (Int × Int)) (k : Nat) (h : k < l.length), (pcs l)[k * 2 + 1]? = some (.int .u64 l[k].2)
  | x :: l, 0, _ => rfl
  | x :: l, k + 1, h => by
    rw [pcs_cons, show (k + 1) * 2 + 1 = k * 2 + 1 + 1 + 1 by omega, List.getElem?_cons_succ, List.getElem?_cons_succ]
    exact pcs_get1 l k (by simpa using h)
theorem pcs_set0 (a : Int) : ∀ (l : List (Int × Int)) (k : Nat) (h : k < l.length), (pcs l).set (k * 2) (.int .u64 a) = pcs (l.set k (a, l[k].2))
  | x :: l, 0, _ => rfl
  | x :: l, k + 1, h => by
    rw [pcs_cons, show (k + 1) * 2 = k * 2 + 1 + 1 by omega, List.set_cons_succ, List.set_cons_succ, pcs_set0 a l k (by simpa using h)]
    rfl
theorem pcs_set1 (a : Int) : ∀ (l : List (Int × Int)) (k : Nat) (h : k < l.length), (pcs l).set (k * 2 + 1) (.int .u64 a) = pcs (l.set k (l[k].1, a))
  | x :: l, 0, _ => rfl
  | x :: l, k + 1, h => by
    rw [pcs_cons, show (k + 1) * 2 + 1 = k * 2 + 1 + 1 + 1 by omega, List.set_cons_succ, List.set_cons_succ, pcs_set1 a l k (by simpa using h)]
    rfl
theorem pcs_rep : ∀ n : Nat, pcs (List.replicate n (0, 0)) = List.replicate (n * 2) (.int .u64 0)
  | 0 => rfl
  | n + 1 => by
    rw [List.replicate_succ, pcs_cons, pcs_rep n, show (n + 1) * 2 = n * 2 + 1 + 1 by omega, List.replicate_succ, List.replicate_succ]
theorem made_pairs (n : Nat) : (madeCells #[.int .u64 0, .int .u64 0] (n * 2)).toList = pcs (List.replicate n (0, 0)) := by
  rw [pcs_rep]
  refine List.ext_getElem (by simp [size_madeCells]) fun j h1 h2 => ?_
  have hj : j < n * 2 := by simpa using h2
  simp only [madeCells, Array.toList_map, List.getElem_map, List.getElem_replicate]
  simp
  have : j % 2 = 0 ∨ j % 2 = 1 := by omega
  rcases this with h | h <;> simp [h]
theorem sl_pcs' {X : Nat → Prop} {w : World} {g : Nat} {l : List (Int × Int)} (h : Bk w g 38 (pcs l).toArray) (hX : X g) (hu : ∀ x ∈ l, U64 x.1 ∧ U64 x.2) (hb : l.length ≤ 100000) : Sl encP X w (.slice (some ⟨g, 0, none⟩) l.length l.length) l := by
  refine Sl.block h hX (l.map fun x => [.int .u64 x.1, .int .u64 x.2]) (by simp) (fun i hi hi' => ?_) ?_ (Nat.le_refl _) (by omega)
  · simp only [List.getElem_map]
    exact ⟨rfl, hu _ (List.getElem_mem hi)⟩
  · simp [pcs, List.flatMap]
theorem make_pairs (n : Nat) (hn : n ≤ 100000) : ∀ w', (Instr.makeSlice 39 (.int .i64 (n : Int)) (.int .i64 (n : Int))).run Tryz.prog w' = .ok (.slice (some ⟨w'.heap.size, 0, none⟩) n n) (w'.alloc (.cells (madeCells #[.int .u64 0, .int .u64 0] (n * 2)) 38)) := fun w' => by
  obtain ⟨i, hi, hz⟩ := Option.map_eq_some_iff.1 info_pair
  simp only [Prod.mk.injEq] at hz
  obtain ⟨hz1, hz2, hz3⟩ := hz
  have hr := run_make (P := Tryz.prog) w' 39 38 i _ Tryz.underlying39 hi hz1 .i64 .i64 (n : Int) (n : Int) (by omega) (Int.le_refl _) (by rw [hz3]; omega) (by omega)
  rw [hz2, Int.toNat_natCast] at hr
  exact hr
end Go.Proofs.YthicondcjeipfaaGreatDoor

namespace Go.Proofs.YthicondcjeipfaaGreatDoor
open Go Go.RowKit

/-- Two lists, number by number; of which the first j are filled in. -/
def zipP (a b : List Int) (n : Nat) : List (Int × Int) := (List.range n).map fun k => (a[k]?.getD 0, b[k]?.getD 0)
def zipJ (a b : List Int) (n j : Nat) : List (Int × Int) := (List.range n).map fun k => if k < j then (a[k]?.getD 0, b[k]?.getD 0) else (0, 0)
theorem zipJ_len (a b : List Int) (n j : Nat) : (zipJ a b n j).length = n := by simp [zipJ]
theorem zipJ_zero (a b : List Int) (n : Nat) : zipJ a b n 0 = List.replicate n (0, 0) := by
  refine List.ext_getElem (by simp [zipJ]) fun j h1 h2 => ?_
  simp [zipJ]
theorem zipJ_all (a b : List Int) (n : Nat) : zipJ a b n n = zipP a b n := List.map_congr_left fun _ hk => if_pos (List.mem_range.1 hk)
theorem zipJ_set (a b : List Int) (n j : Nat) : (zipJ a b n j).set j (a[j]?.getD 0, b[j]?.getD 0) = zipJ a b n (j + 1) := by
  refine List.ext_getElem (by simp [zipJ]) fun k h1 h2 => ?_
  rw [List.getElem_set]
  simp only [zipJ, List.getElem_map, List.getElem_range]
  split
  · rename_i e
    subst e
    rw [if_pos (by omega)]
  · rename_i e
    by_cases h : k < j
    · rw [if_pos h, if_pos (by omega)]
    · rw [if_neg h, if_neg (by omega)]
set_option maxRecDepth 100000 in
set_option maxHeartbeats 2000000 in
theorem dpairs2_any (v1 v2 : Value) (a b : List Int) (n : Nat) (X Y : Nat → Prop) (w : World) (h1 : Sl encU X w v1 a) (h2 : Sl encU Y w v2 b) (ha : a.length = n) (hb : b.length = n) (hn : n ≤ 1000) :
    Calls Tryz.prog 29 #[v1, v2] w (Gives encP (fun g => w.heap.size ≤ g) w (zipP a b n)) := by
  have H1 := Lib.hid h1.bounded
  have H2 := Lib.hid h2.bounded
  obtain ⟨A1, c1, rfl, _, _⟩ := h1.form
  obtain ⟨A2, c2, rfl, _, _⟩ := h2.form
  have HA := Lib.hid ha
  have HB := Lib.hid hb
  rw [ha] at H1 ⊢
  rw [hb] at H2 ⊢
  have hmk := make_pairs n (by omega) w
  obtain ⟨D0, hD0⟩ : ∃ y, y = w.alloc (.cells (madeCells #[.int .u64 0, .int .u64 0] (n * 2)) 38) := ⟨_, rfl⟩
  obtain ⟨Bo, hBo⟩ : ∃ y, y = w.heap.size := ⟨_, rfl⟩
  have HGD : Hid (w.grownBy D0 none) := Lib.hid (by rw [hD0]; exact World.grownBy_alloc _ _ none)
  have HBO : Hid (Bk D0 Bo 38 (pcs (zipJ a b n 0)).toArray) := Lib.hid (by
    rw [hD0, hBo, zipJ_zero, ← made_pairs]
    exact Bk.new w _ _)
  have HX1 : Hid (∀ wx, D0.grownBy wx (some Bo) → Sl encU (fun g => g < Bo) wx (.slice A1 n c1) a) := Lib.hid (fun wx hg => ((H1.out.kept HGD.out).more (Y := fun g => g < Bo) fun g _ hx => by rw [hBo]; exact hx.2).keep hg (fun g hx e => by injection e with e; omega))
  have HX2 : Hid (∀ wx, D0.grownBy wx (some Bo) → Sl encU (fun g => g < Bo) wx (.slice A2 n c2) b) := Lib.hid (fun wx hg => ((H2.out.kept HGD.out).more (Y := fun g => g < Bo) fun g _ hx => by rw [hBo]; exact hx.2).keep hg (fun g hx e => by injection e with e; omega))
  have HUA : Hid (∀ k, U64 (a[k]?.getD 0) ∧ U64 (b[k]?.getD 0)) := Lib.hid (fun k => by
    have key : ∀ (l : List Int) (Z : Nat → Prop) (v : Value), Sl encU Z w v l → U64 (l[k]?.getD 0) := fun l Z v h => by
      rcases Nat.lt_or_ge k l.length with hk | hk
      · obtain ⟨_, _, _, _, _, _, _, u⟩ := h.atU hk
        rw [List.getElem?_eq_getElem hk]
        exact u
      · rw [List.getElem?_eq_none hk]
        exact ⟨by decide, by decide⟩
    exact ⟨key a X _ h1, key b Y _ h2⟩)
  have HBS : Hid (Bo = w.heap.size) := Lib.hid hBo
  clear h1 h2 ha hb
  go_enter Tryz.func29, Tryz.ntmps29
  go_upto_region 3 with (fail)
  rw [← hD0, ← hBo]
  clear hD0 hBo hmk
  go_loopg [12] n (fun g s12 wx => ∃ j : Nat, j + g = n ∧ s12 = .int .i64 j ∧ Hid (Bk wx Bo 38 (pcs (zipJ a b n j)).toArray ∧ D0.grownBy wx (some Bo)))
  case atStart => exact ⟨0, by omega, rfl, Lib.hid ⟨HBO.out, World.grownBy.refl _ _⟩⟩
  case round =>
    obtain ⟨j, hj, rfl, HX⟩ := hrel
    cases gk with
    | zero =>
      obtain rfl : j = n := by omega
      have hno : ¬ ((j : Int) < (j : Int)) := by omega
      have HR : Hid (Sl encP (fun g => w.heap.size ≤ g) wr (.slice (some ⟨Bo, 0, none⟩) j j) (zipP a b j) ∧ w.grownBy wr none) := Lib.hid ⟨by
        have hsl := sl_pcs' (X := fun g => w.heap.size ≤ g) HX.out.1 (by rw [HBS.out]; exact Nat.le_refl _) (fun x hx => by
          obtain ⟨k, _, rfl⟩ := List.mem_map.1 hx
          split
          · exact HUA.out k
          · exact ⟨⟨by decide, by decide⟩, ⟨by decide, by decide⟩⟩) (by rw [zipJ_len]; omega)
        rw [zipJ_len, zipJ_all] at hsl
        exact hsl, grown_up HGD.out HX.out.2 (fun g e => by injection e with e; rw [← e, HBS.out]; exact Nat.le_refl _)⟩
      clear HX
      go_wp2
      go_ret
      exact ⟨_, rfl, HR.out.1, HR.out.2⟩
    | succ m =>
      have hjn : (j : Int) < (n : Int) := by omega
      have hja : j < a.length := by rw [HA.out]; omega
      have hjb : j < b.length := by rw [HB.out]; omega
      have hj0 : (0 : Int) ≤ (j : Int) := Int.natCast_nonneg j
      obtain ⟨hbo, hgd⟩ := HX.out
      obtain ⟨g1, o1, c1', e1, hl1, hg1, hc1, hu1⟩ := (HX1.out _ hgd).atU hja
      injection e1 with e11 e12 e13
      subst e11 e13
      obtain ⟨g2, o2, c2', e2, hl2, hg2, hc2, hu2⟩ := (HX2.out _ hgd).atU hjb
      injection e2 with e21 e22 e23
      subst e21 e23
      have HZL : Hid (j < (zipJ a b n j).length) := Lib.hid (by rw [zipJ_len]; omega)
      have HAT : Hid (((pcs (zipJ a b n j)).set (j * 2) (.int .u64 a[j])).set (j * 2 + 1) (.int .u64 b[j]) = pcs (zipJ a b n (j + 1))) := Lib.hid (by
        have hs := zipJ_set a b n j
        rw [List.getElem?_eq_getElem hja, List.getElem?_eq_getElem hjb, Option.getD_some, Option.getD_some] at hs
        rw [pcs_set0 _ _ j HZL.out, pcs_set1 _ _ j (by simpa using HZL.out), List.set_set, ← hs]
        simp)
      obtain ⟨x, hx⟩ : ∃ y, y = a[j] := ⟨_, rfl⟩
      obtain ⟨y, hy⟩ : ∃ y, y = b[j] := ⟨_, rfl⟩
      rw [← hx] at hc1 hu1 HAT
      rw [← hy] at hc2 hu2 HAT
      have HDR : Hid (wr.grownBy wr.drew none) := Lib.hid (grown_drewN' _ 1)
      have HLD : Hid (∀ W, wr.drew.grownBy W none → W.cell? ⟨g1, o1 + j, none⟩ = some (.int .u64 x) ∧ W.cell? ⟨g2, o2 + j, none⟩ = some (.int .u64 y)) := Lib.hid (fun W hg => ⟨cell_kept hc1 (HDR.out.trans hg) (by simp), cell_kept hc2 (HDR.out.trans hg) (by simp)⟩)
      have HBK := Lib.hid hbo
      have HGK := Lib.hid hgd
      obtain ⟨p1, p2, HPP⟩ : ∃ p1 p2 : Int, Hid ((pcs (zipJ a b n j)).toArray[j * 2]? = some (.int .u64 p1) ∧ (pcs (zipJ a b n j)).toArray[j * 2 + 1]? = some (.int .u64 p2)) := ⟨_, _, Lib.hid ⟨by simpa using pcs_get0 _ j HZL.out, by simpa using pcs_get1 _ j HZL.out⟩⟩
      clear hbo hgd hc1 hc2 hl1 hl2 hg1 hg2 hu1 hu2 hx hy hja hjb e12 e22 HX
      go_upto_region 5 with (fail)
      refine wp_region_mono 12 (by kernel_rfl) (by kernel_rfl) ?_
      -- op 0 (slot 15): move
      refine MonoR.step (Pv.eq (.slice (some ⟨Bo, 0, none⟩) n n)) [] (by kernel_rfl) (fun w' hw' => ?_) ?_
      · refine ask_do rfl fun K hK => ?_
        go_simp
        exact hK _ _ rfl rfl (World.grownBy.refl _ none)
      -- op 1 (slot 16): move
      refine MonoR.step (Pv.eq (.int .i64 (j : Int))) [] (by kernel_rfl) (fun w' hw' => ?_) ?_
      · refine ask_do rfl fun K hK => ?_
        go_simp
        exact hK _ _ rfl rfl (World.grownBy.refl _ none)
      -- op 2 (slot 17): move
      refine MonoR.step (Pv.eq (.slice (some ⟨g1, o1, none⟩) n c1)) [] (by kernel_rfl) (fun w' hw' => ?_) ?_
      · refine ask_do rfl fun K hK => ?_
        go_simp
        exact hK _ _ rfl rfl (World.grownBy.refl _ none)
      -- op 3 (slot 18): move
      refine MonoR.step (Pv.eq (.int .i64 (j : Int))) [] (by kernel_rfl) (fun w' hw' => ?_) ?_
      · refine ask_do rfl fun K hK => ?_
        go_simp
        exact hK _ _ rfl rfl (World.grownBy.refl _ none)
      -- op 4 (slot 19): indexAddr
      refine MonoR.step (Pv.eq (.pointer (some ⟨g1, o1 + j, none⟩))) [(2, 17), (3, 18)] (by kernel_rfl) (fun w' hw' => ?_) ?_
      · rintro _ rfl
        rintro _ rfl
        refine ask_do rfl fun K hK => ?_
        go_simp
        exact hK _ _ rfl rfl (World.grownBy.refl _ none)
      -- op 5 (slot 20): load
      refine MonoR.step (Pv.eq (.int .u64 x)) [(4, 19)] (by kernel_rfl) (fun w' hw' => ?_) ?_
      · rintro _ rfl
        refine ask_do rfl fun K hK => ?_
        obtain ⟨q0, q1⟩ := HLD.out w' hw'
        go_simp
        exact hK _ _ rfl rfl (World.grownBy.refl _ none)
      -- op 6 (slot 21): move
      refine MonoR.step (Pv.eq (.slice (some ⟨g2, o2, none⟩) n c2)) [] (by kernel_rfl) (fun w' hw' => ?_) ?_
      · refine ask_do rfl fun K hK => ?_
        go_simp
        exact hK _ _ rfl rfl (World.grownBy.refl _ none)
      -- op 7 (slot 22): move
      refine MonoR.step (Pv.eq (.int .i64 (j : Int))) [] (by kernel_rfl) (fun w' hw' => ?_) ?_
      · refine ask_do rfl fun K hK => ?_
        go_simp
        exact hK _ _ rfl rfl (World.grownBy.refl _ none)
      -- op 8 (slot 23): indexAddr
      refine MonoR.step (Pv.eq (.pointer (some ⟨g2, o2 + j, none⟩))) [(6, 21), (7, 22)] (by kernel_rfl) (fun w' hw' => ?_) ?_
      · rintro _ rfl
        rintro _ rfl
        refine ask_do rfl fun K hK => ?_
        go_simp
        exact hK _ _ rfl rfl (World.grownBy.refl _ none)
      -- op 9 (slot 24): load
      refine MonoR.step (Pv.eq (.int .u64 y)) [(8, 23)] (by kernel_rfl) (fun w' hw' => ?_) ?_
      · rintro _ rfl
        refine ask_do rfl fun K hK => ?_
        obtain ⟨q0, q1⟩ := HLD.out w' hw'
        go_simp
        exact hK _ _ rfl rfl (World.grownBy.refl _ none)
      -- op 10 (slot 25): build
      refine MonoR.step (Pv.eq (.agg #[.int .u64 x, .int .u64 y])) [(5, 20), (9, 24)] (by kernel_rfl) (fun w' hw' => ?_) ?_
      · rintro _ rfl
        rintro _ rfl
        refine ask_do rfl fun K hK => ?_
        go_simp
        exact hK _ _ rfl rfl (World.grownBy.refl _ none)
      -- op 11 (slot 26): indexAddr
      refine MonoR.step (Pv.eq (.pointer (some ⟨Bo, j * 2, none⟩))) [(0, 15), (1, 16)] (by kernel_rfl) (fun w' hw' => ?_) ?_
      · rintro _ rfl
        rintro _ rfl
        refine ask_do rfl fun K hK => ?_
        go_simp
        exact hK _ _ rfl rfl (World.grownBy.refl _ none)
      
      intro w3 hw3
      intro y0 k0 y1 k1 y2 k2 y3 k3 y4 k4 y5 k5 y6 k6 y7 k7 y8 k8 y9 k9 y10 k10 y11 k11
      show wpList Tryz.prog _ _ _ _ w3
      simp only [Act.put, List.setIfInBounds_toArray, List.set_cons_zero, List.set_cons_succ]
      have e10 : y10 = .agg #[.int .u64 x, .int .u64 y] := k10
      have e11 : y11 = .pointer (some ⟨Bo, j * 2, none⟩) := k11
      subst e10 e11
      have hb3 : Bk w3 Bo 38 (pcs (zipJ a b n j)).toArray := HBK.out.grown (HDR.out.trans hw3) (by simp)
      have d0 : w3.cell? ⟨Bo, j * 2, none⟩ = some (.int .u64 p1) := by rw [hb3.cell]; exact HPP.out.1
      have d1 : w3.cell? ⟨Bo, j * 2 + 1, none⟩ = some (.int .u64 p2) := by rw [hb3.cell]; exact HPP.out.2
      have f3 := hb3.free
      have HFIN : Hid (Bk ((w3.setCell ⟨Bo, j * 2, none⟩ (.int .u64 x)).setCell ⟨Bo, j * 2 + 1, none⟩ (.int .u64 y)) Bo 38 (pcs (zipJ a b n (j + 1))).toArray ∧ D0.grownBy ((w3.setCell ⟨Bo, j * 2, none⟩ (.int .u64 x)).setCell ⟨Bo, j * 2 + 1, none⟩ (.int .u64 y)) (some Bo)) := Lib.hid ⟨((hb3.set (j * 2) (.int .u64 x)).set (j * 2 + 1) (.int .u64 y)).of_eq (by rw [← HAT.out]; simp), (HGK.out.trans ((HDR.out.trans hw3).but _)).trans ((grownSet w3 Bo _ _).trans (grownSet _ Bo _ _))⟩
      clear hw3 hb3 k0 k1 k2 k3 k4 k5 k6 k7 k8 k9 k10 k11 HLD
      go_wp2_with fail
      go_roundg m
      case measure => omega
      case rel => exact ⟨j + 1, by omega, by go_num, HFIN⟩
end Go.Proofs.YthicondcjeipfaaGreatDoor

namespace Go.Proofs.YthicondcjeipfaaGreatDoor
open Go Go.RowKit Go.Shelf

attribute [local go_sem] Oper.semAt_some
/-- The j-th numbers of all lists; 0 where there is none. -/
def colZ (f : List (List Int)) (j : Nat) : List Int := f.map fun c => c[j]?.getD 0
theorem colZ_snoc (l : List (List Int)) (i j : Nat) (h : i < l.length) : colZ (l.take (i + 1)) j = colZ (l.take i) j ++ [l[i][j]?.getD 0] := map_take_snoc' _ l i h
theorem colZ_length (f : List (List Int)) (j : Nat) : (colZ f j).length = f.length := by simp [colZ]
set_option maxHeartbeats 400000 in
theorem reads_one (A : Option Addr) (m c : Nat) (w : World) :
    Calls Tryz.prog 93 #[.slice A m c] w fun e w' => e = .returned (.func (.func 105) #[] #[.pointer (some ⟨w.heap.size, 0, none⟩)]) ∧ w' = w.alloc (.cells #[.slice A m c] 47) := by
  go_enter Tryz.func93, Tryz.ntmps93
  go_wp2
  go_ret
  exact ⟨rfl, rfl⟩
set_option maxHeartbeats 400000 in
theorem readsAt_any (B : Nat) (v : Value) (f : List (List Int)) (i j : Nat) (X : Nat → Prop) (w : World) (hb : Boxed w B 47 v) (h : Sl (encS encU) X w v f) (hi : i < f.length) (hj : (j : Int) ≤ 9223372036854775807) :
    Calls Tryz.prog 105 #[.int .i64 i, .int .i64 j, .pointer (some ⟨B, 0, none⟩)] w fun e w' => e = .returned (.int .u64 (f[i][j]?.getD 0)) ∧ w' = w := by
  have hc := hb.cell
  obtain ⟨g, o, c', u, e, _, _, hcu, hsu⟩ := h.atS hi
  subst e
  have hi0 : (0 : Int) ≤ (i : Int) := by omega
  have hj0 : (0 : Int) ≤ (j : Int) := by omega
  have hil : (i : Int) < (f.length : Int) := by omega
  obtain ⟨A1, c1, rfl, _, _⟩ := hsu.form
  by_cases hl : j < f[i].length
  · obtain ⟨g1, o1, c2, e, _, _, hcv, _⟩ := hsu.atU hl
    injection e with e1 e2 e3
    subst e1 e3
    have hli : (j : Int) < (f[i].length : Int) := by omega
    rw [show f[i][j]?.getD 0 = f[i][j] by rw [List.getElem?_eq_getElem hl]; rfl]
    generalize f[i][j] = y at *
    clear hsu hb h e2
    generalize f[i].length = m at *
    go_enter Tryz.func105, Tryz.ntmps105
    go_wp2
    go_ret
    exact ⟨rfl, rfl⟩
  · have hli : ¬ (j : Int) < (f[i].length : Int) := by omega
    have hli2 : (f[i].length : Int) ≤ (j : Int) := by omega
    rw [show f[i][j]?.getD 0 = 0 by rw [List.getElem?_eq_none (by omega)]; rfl]
    clear hsu hb h
    generalize f[i].length = m at *
    go_enter Tryz.func105, Tryz.ntmps105
    go_wp2
    go_ret
    exact ⟨rfl, rfl⟩
/-- What columns tells: a function that has f, and how f is read, in boxes. -/
def ColsOut (A : Option Addr) (m c : Nat) (w : World) (e : Ending) (w' : World) : Prop :=
  e = .returned (.func (.func 94) #[] #[.pointer (some ⟨w.heap.size, 0, none⟩), .pointer (some ⟨w.heap.size + 1 + 1, 0, none⟩)]) ∧ Boxed w' w.heap.size 47 (.slice A m c) ∧ Boxed w' (w.heap.size + 1) 47 (.slice A m c) ∧
  Boxed w' (w.heap.size + 1 + 1) 128 (.func (.func 105) #[] #[.pointer (some ⟨w.heap.size + 1, 0, none⟩)]) ∧ w.grownBy w' none ∧ w'.heap.size = w.heap.size + 1 + 1 + 1
set_option maxHeartbeats 400000 in
theorem columns_any (A : Option Addr) (m c : Nat) (w : World) :
    Calls Tryz.prog 74 #[.slice A m c] w (ColsOut A m c w) := by
  have e1 : (w.alloc (.cells #[.slice A m c] 47)).heap.size = w.heap.size + 1 := by simp
  have e2 : ((w.alloc (.cells #[.slice A m c] 47)).alloc (.cells #[.slice A m c] 47)).heap.size = w.heap.size + 1 + 1 := by simp
  have b3 := Boxed.new ((w.alloc (.cells #[.slice A m c] 47)).alloc (.cells #[.slice A m c] 47)) 128 .nilFunc
  rw [e2] at b3
  have hc3 := b3.cell
  have hf3 := b3.frozen
  have hrun : (store ⟨w.heap.size + 1 + 1, 0, none⟩ (.func (.func 105) #[] #[.pointer (some ⟨w.heap.size + 1, 0, none⟩)])).run Tryz.prog (((w.alloc (.cells #[.slice A m c] 47)).alloc (.cells #[.slice A m c] 47)).alloc (.cells #[.nilFunc] 128)) = .ok () ((((w.alloc (.cells #[.slice A m c] 47)).alloc (.cells #[.slice A m c] 47)).alloc (.cells #[.nilFunc] 128)).setCell ⟨w.heap.size + 1 + 1, 0, none⟩ (.func (.func 105) #[] #[.pointer (some ⟨w.heap.size + 1, 0, none⟩)])) := by
    simp only [store, Sem.run, hc3, hf3]
    rfl
  have HF : Hid (ColsOut A m c w (.returned (.func (.func 94) #[] #[.pointer (some ⟨w.heap.size, 0, none⟩), .pointer (some ⟨w.heap.size + 1 + 1, 0, none⟩)])) (((w.alloc (.cells #[.slice A m c] 47)).alloc (.cells #[.slice A m c] 47)).alloc (.cells #[.func (.func 105) #[] #[.pointer (some ⟨w.heap.size + 1, 0, none⟩)]] 128))) := Lib.hid (by
    have b1 := ((Boxed.new w 47 (.slice A m c)).alloc (.cells #[.slice A m c] 47)).alloc (.cells #[.func (.func 105) #[] #[.pointer (some ⟨w.heap.size + 1, 0, none⟩)]] 128)
    have b2 := (Boxed.new (w.alloc (.cells #[.slice A m c] 47)) 47 (.slice A m c)).alloc (.cells #[.func (.func 105) #[] #[.pointer (some ⟨w.heap.size + 1, 0, none⟩)]] 128)
    have b4 := Boxed.new ((w.alloc (.cells #[.slice A m c] 47)).alloc (.cells #[.slice A m c] 47)) 128 (.func (.func 105) #[] #[.pointer (some ⟨w.heap.size + 1, 0, none⟩)])
    rw [e1] at b2
    rw [e2] at b4
    exact ⟨rfl, b1, b2, b4, ((World.grownBy_alloc w _ none).trans (World.grownBy_alloc _ _ none)).trans (World.grownBy_alloc _ _ none), by simp⟩)
  clear b3 e1 e2
  go_enter Tryz.func74, Tryz.ntmps74
  go_wp2_with fail
  refine (reads_one A m c _).mono ?_
  rintro e w1 ⟨rfl, rfl⟩
  go_wp2
  go_ret
  exact HF.out
/-- A column as it is handed over: its place, the slice, the numbers. -/
structure Colx where
  j : Nat
  v : Value
  c : List Int
/-- What a round of the iterator keeps: what lay below n₀, and three boxes. -/
def Kp3 (n₀ B1 B2 B3 : Nat) (A B : World) : Prop := Below n₀ A B ∧ B.heap[B1]? = A.heap[B1]? ∧ B.heap[B2]? = A.heap[B2]? ∧ B.heap[B3]? = A.heap[B3]?
theorem Kp3.refl (n₀ B1 B2 B3 : Nat) (A : World) : Kp3 n₀ B1 B2 B3 A A := ⟨Below.refl _ _, rfl, rfl, rfl⟩
theorem Kp3.trans {n₀ B1 B2 B3 : Nat} {A B C : World} (h : Kp3 n₀ B1 B2 B3 A B) (k : Kp3 n₀ B1 B2 B3 B C) : Kp3 n₀ B1 B2 B3 A C := ⟨h.1.trans k.1, k.2.1.trans h.2.1, k.2.2.1.trans h.2.2.1, k.2.2.2.trans h.2.2.2⟩
theorem Kp3.grown {n₀ B1 B2 B3 : Nat} {A B : World} (hg : A.grownBy B none) (hn : n₀ ≤ A.heap.size) (h1 : B1 < A.heap.size) (h2 : B2 < A.heap.size) (h3 : B3 < A.heap.size) : Kp3 n₀ B1 B2 B3 A B :=
  ⟨(below_grown hg).mono hn, hg.block _ h1 (by simp), hg.block _ h2 (by simp), hg.block _ h3 (by simp)⟩
theorem Kp3.b {n₀ B1 B2 B3 : Nat} {w : World} (hn : n₀ ≤ w.heap.size) (h1 : B1 < w.heap.size) (h2 : B2 < w.heap.size) (h3 : B3 < w.heap.size) (W : World) (l : Nat) (o o' : Obj) (hl : w.heap.size ≤ l) (h : W.heap[l]? = some o) (k1 : o.isCells = false) (k2 : o.isWalk = false) : Kp3 n₀ B1 B2 B3 W (W.putObj l o') := by
  have hlt := (Array.getElem?_eq_some_iff.1 h).1
  have hg := grownBy_putObj' W l o'
  exact ⟨belowK_b hn W l o o' hl h k1 k2, hg.block _ (by omega) (fun e => by injection e with e; omega), hg.block _ (by omega) (fun e => by injection e with e; omega), hg.block _ (by omega) (fun e => by injection e with e; omega)⟩
def colFx (n₁ n : Nat) (x : Colx) (W : World) : Prop := Sl encU (fun g => n₁ ≤ g) W x.v x.c ∧ x.j < n
def colsOf (f : List (List Int)) : List (Nat × List Int) := (List.range (wideI f)).map fun j => (j, colZ f j)
set_option maxRecDepth 100000 in
set_option maxHeartbeats 2000000 in
theorem columns_goes (n : Nat) (hn : 1 ≤ n) (B1 B2 B3 : Nat) (v : Value) (f : List (List Int)) (X : Nat → Prop) (w₀ w1 : World) (h01 : Below w₀.heap.size w₀ w1) (hb1 : Boxed w1 B1 47 v) (hb2 : Boxed w1 B2 47 v) (hb3 : Boxed w1 B3 128 (.func (.func 105) #[] #[.pointer (some ⟨B2, 0, none⟩)])) (hf : Sl (encS encU) X w₀ v f) (hl1 : f.length ≤ 100000) (hl2 : ∀ c ∈ f, c.length ≤ 100000) :
    SeqGoes Fence.wide n Tryz.prog 94 #[.pointer (some ⟨B1, 0, none⟩), .pointer (some ⟨B3, 0, none⟩)] (fun x : Colx => #[.int .i64 x.j, x.v]) (colFx w1.heap.size (wideI f)) (Kp3 w₀.heap.size B1 B2 B3) (fun xs => xs.map (fun x => (x.j, x.c)) = colsOf f) (wideI f) w1 := by
  intro l J W hW hJ hY h0
  refine callsIn_of_wp Tryz.func94 rfl trivial ?_ rfl
  simp only [Tryz.ntmps94, List.size_toArray, List.length_cons, List.length_nil, Nat.reduceAdd, Nat.reduceSub, Array.replicate_succ, Array.replicate_zero, List.push_toArray, List.append_toArray, List.nil_append, List.cons_append]
  have HB1 : Hid (Boxed W B1 47 v) := Lib.hid ((hW.5 B1 hb1.lt).trans hb1)
  have HB2 : Hid (Boxed W B2 47 v) := Lib.hid ((hW.5 B2 hb2.lt).trans hb2)
  have HB3 : Hid (Boxed W B3 128 (.func (.func 105) #[] #[.pointer (some ⟨B2, 0, none⟩)])) := Lib.hid ((hW.5 B3 hb3.lt).trans hb3)
  have HG0 : Hid (w₀.grownBy W none) := Lib.hid (grown_of_below (h01.trans (hW.mono h01.size)))
  have HWS : Hid (w1.heap.size ≤ W.heap.size) := Lib.hid hW.size
  have HF := Lib.hid hf
  have HLC := Lib.hid hl2
  have HWB : Hid (wideI f ≤ 100000) := Lib.hid (wide_le f _ hl2)
  obtain ⟨A1, c1, rfl, _, _⟩ := hf.form
  have HLB1 := Lib.hid hb1.lt
  have HLB2 := Lib.hid hb2.lt
  have HLB3 := Lib.hid hb3.lt
  have ca := HB1.out.cell
  have HWI := Lib.hid (wide_any _ f X W (HF.out.kept HG0.out) hl2)
  have HH0 := Lib.hid h0
  have HL : Hid ((colsOf f).length = wideI f) := Lib.hid (by simp [colsOf])
  clear hb1 hb2 hb3 hf h0 hl2
  obtain ⟨N, hN⟩ : ∃ N, N = wideI f := ⟨_, rfl⟩
  rw [← hN] at HWI HWB HL hY
  have HN := Lib.hid hN
  have HN9 : N ≤ 100000 := HWB.out
  clear hN
  gi_wp2_with (refine ⟨trivial, ?_⟩; refine (callsIn_wide.2 HWI.out).mono ?_; rintro e w' ⟨rfl, hw'⟩; obtain rfl : W = w' := hw'.symm)
  gi_loopw [9] (fun s9 wr => ∃ (k : Nat) (pre : List Colx), k ≤ N ∧ s9 = .int .i64 k ∧ Hid (pre.map (fun x => (x.j, x.c)) = (colsOf f).take k ∧ J pre wr ∧ Kp3 w₀.heap.size B1 B2 B3 W wr)) (fun s9 _ => N - (intOf s9).toNat)
  case atStart => exact ⟨0, [], by omega, rfl, Lib.hid ⟨rfl, HH0.out, Kp3.refl _ _ _ _ _⟩⟩
  case round =>
    rename World => wr
    obtain ⟨k, pre, hk, rfl, HX⟩ := hrel
    by_cases hlt : k < N
    · have hki : (k : Int) < (N : Int) := by omega
      have hkb : (k : Int) ≤ 9223372036854775807 := by omega
      have hpl : pre.length = k := by have := congrArg List.length HX.out.1; simpa [HL.out, Nat.min_eq_left hk] using this
      have HBr1 : Hid (Boxed wr B1 47 (.slice A1 f.length c1)) := Lib.hid (HX.out.2.2.2.1.trans HB1.out)
      have HBr2 : Hid (Boxed wr B2 47 (.slice A1 f.length c1)) := Lib.hid (HX.out.2.2.2.2.1.trans HB2.out)
      have HBr3 : Hid (Boxed wr B3 128 (.func (.func 105) #[] #[.pointer (some ⟨B2, 0, none⟩)])) := Lib.hid (HX.out.2.2.2.2.2.trans HB3.out)
      have HGW : Hid (w₀.grownBy wr none) := Lib.hid (grown_of_below ((below_grown HG0.out).trans HX.out.2.2.1))
      have HWR : Hid (W.heap.size ≤ wr.heap.size) := Lib.hid HX.out.2.2.1.size
      have hca := HBr1.out.cell
      clear ca
      have HI0 : Hid (Acc encU wr.heap.size 22 (fun g => wr.heap.size ≤ g) wr (.slice none 0 0) (colZ (f.take 0) k) ∧ wr.grownBy wr none) := Lib.hid ⟨Acc.nil _ _ _ _ _, World.grownBy.refl _ _⟩
      gi_wp2
      refine wpIn_wide.2 ?_
      go_loopg [5, 14] f.length (fun g s5 s14 wx => ∃ i : Nat, i + g = f.length ∧ s14 = .int .i64 i ∧ Hid (Acc encU wr.heap.size 22 (fun g => wr.heap.size ≤ g) wx s5 (colZ (f.take i) k) ∧ wr.grownBy wx none))
      case atStart => exact ⟨0, by omega, rfl, HI0⟩
      case round =>
        rename World => wi
        obtain ⟨i, hi, rfl, HY⟩ := hrel
        cases gk with
        | zero =>
          obtain rfl : i = f.length := by omega
          have HJi : Hid (J pre wi) := Lib.hid (hJ _ wr wi none HX.out.2.1 HY.out.2 (by simp))
          have HC : Hid (Sl encU (fun g => w1.heap.size ≤ g) wi u5 (colZ f k)) := Lib.hid (by have := HY.out.1.sl; rw [List.take_length] at this; exact this.more (fun g _ hg => by have := HWS.out; have := HWR.out; omega))
          obtain ⟨fn, tmps, assign, body, hy, hR⟩ := hY pre ⟨k, u5, colZ f k⟩ wi HJi.out ⟨HC.out, hlt⟩ (by rw [hpl]; exact hlt)
          dsimp only at hy
          have HR := Lib.hid hR
          have HPN : Hid ((pre ++ [(⟨k, u5, colZ f k⟩ : Colx)]).map (fun x => (x.j, x.c)) = (colsOf f).take (k + 1)) := Lib.hid (by
            have hkz : k < (colsOf f).length := by rw [HL.out]; exact hlt
            rw [List.map_append, HX.out.1, List.take_succ_eq_append_getElem hkz]
            simp [colsOf])
          have HKr : Hid (Kp3 w₀.heap.size B1 B2 B3 W wi) := Lib.hid (HX.out.2.2.trans (Kp3.grown HY.out.2 (Nat.le_trans HGW.out.size (Nat.le_refl _)) HBr1.out.lt HBr2.out.lt HBr3.out.lt))
          clear hR HI0 HY
          go_wp2_with fail
          gi_wp2_with ((with_reducible refine HR.out.mono ?_); rintro e W' ⟨rfl, hJ2, hK2⟩)
          exact ⟨⟨k + 1, _, by omega, by go_num, Lib.hid ⟨HPN.out, hJ2, HKr.out.trans hK2⟩⟩, by simp [intOf]; omega⟩
        | succ m =>
          have hin : (i : Int) < (f.length : Int) := by omega
          have hiN : i < f.length := by omega
          have HSf := Lib.hid ((HF.out.kept HGW.out).kept HY.out.2)
          have hB2 := HBr2.out.kept HY.out.2 (by simp)
          have hB3 := HBr3.out.kept HY.out.2 (by simp)
          have hc3 := hB3.cell
          have HCT := Lib.hid (readsAt_any B2 _ f i k X wi hB2 HSf.out hiN hkb)
          have HSN := Lib.hid (colZ_snoc f i k hiN)
          have HUX : Hid (U64 (f[i][k]?.getD 0)) := Lib.hid (by
            obtain ⟨_, _, _, u, _, _, _, _, hsu⟩ := HSf.out.atS hiN
            exact getD_U64 k hsu)
          have HA := Lib.hid HY.out.1
          have HGY := Lib.hid HY.out.2
          have HLB : Hid (((colZ (f.take i) k).length + 1) * 8 ≤ 140737488355328) := Lib.hid (by rw [colZ_length]; simp; omega)
          clear hB2 hB3 HY HI0 HSf
          generalize f[i][k]?.getD 0 = y at *
          go_wp2_with fail
          refine HCT.out.mono ?_
          rintro e w' ⟨rfl, rfl⟩
          go_wp2_with (at_builtin; refine wpList_pushG rfl (.tmp 17) (.tmp 22) rfl (E := encU) el_u64 HGY.out HA.out (fun _ h => h) ⟨rfl, HUX.out⟩ HLB.out rfl rfl ?_)
          intro v2 w2 hacc2 hg2 hgo
          have HFIN : Hid (Acc encU wr.heap.size 22 (fun g => wr.heap.size ≤ g) w2 v2 (colZ (f.take (i + 1)) k) ∧ wr.grownBy w2 none) := Lib.hid ⟨by rw [HSN.out]; exact hacc2, hg2⟩
          clear hacc2 hg2 hgo hc3
          go_wp2_with fail
          go_roundg m
          case measure => omega
          case rel => exact ⟨i + 1, by omega, by go_num, HFIN⟩
    · obtain rfl : k = N := by omega
      gi_wp2
      go_end0
      exact ⟨⟨_, rfl⟩, pre, by rw [HX.out.1, ← HL.out, List.take_length], HX.out.2.1⟩
end Go.Proofs.YthicondcjeipfaaGreatDoor

namespace Go.Proofs.YthicondcjeipfaaGreatDoor
open Go Go.RowKit Go.Shelf

attribute [local go_sem] Oper.semAt_some
/-- The row, and the column, at a place. -/
def rowI (q : Int) (f : List (List Int)) (x : Int) : List Int := (List.range (wideI f)).map fun j => evalI q (colZ f j) x
def colV (q : Int) (f : List (List Int)) (y : Int) : List Int := f.map fun c => evalI q c y
/-- What the array holds behind some rounds. -/
def outArr (q x : Int) (n : Nat) (xs : List (Nat × List Int)) : List Int := xs.foldl (fun h e => h.set e.1 (evalI q e.2 x)) (List.replicate n 0)
theorem foldl_set_length (q x : Int) : ∀ (xs : List (Nat × List Int)) (h : List Int), (xs.foldl (fun h e => h.set e.1 (evalI q e.2 x)) h).length = h.length
  | [], _ => rfl
  | _ :: xs, _ => (foldl_set_length q x xs _).trans (List.length_set ..)
theorem outArr_length (q x : Int) (n : Nat) (xs : List (Nat × List Int)) : (outArr q x n xs).length = n := by
  unfold outArr
  rw [foldl_set_length]
  simp
theorem outArr_snoc (q x : Int) (n : Nat) (xs : List (Nat × List Int)) (e : Nat × List Int) : outArr q x n (xs ++ [e]) = (outArr q x n xs).set e.1 (evalI q e.2 x) := by simp [outArr]
theorem outArr_upto (q x : Int) (f : List (List Int)) (n : Nat) : ∀ k, k ≤ n → ∀ i (hi : i < (outArr q x n ((List.range k).map fun j => (j, colZ f j))).length), (outArr q x n ((List.range k).map fun j => (j, colZ f j)))[i] = if i < k then evalI q (colZ f i) x else 0
  | 0, _, i, hi => by simp [outArr]
  | k + 1, hk, i, hi => by
    have e : (List.range (k + 1)).map (fun j => (j, colZ f j)) = (List.range k).map (fun j => (j, colZ f j)) ++ [(k, colZ f k)] := by simp [List.range_succ]
    simp only [e, outArr_snoc]
    rw [List.getElem_set]
    split
    · rename_i h
      subst h
      simp
    · rename_i h
      rw [outArr_upto q x f n k (by omega) i]
      by_cases h1 : i < k
      · simp [h1, show i < k + 1 by omega]
      · simp [h1, show ¬ i < k + 1 by omega]
theorem outArr_all (q x : Int) (f : List (List Int)) : outArr q x (wideI f) (colsOf f) = rowI q f x := by
  refine List.ext_getElem (by rw [outArr_length]; simp [rowI]) fun i h1 h2 => ?_
  have h3 : i < wideI f := by rwa [outArr_length] at h1
  have := outArr_upto q x f (wideI f) (wideI f) (Nat.le_refl _) i h1
  rw [show (outArr q x (wideI f) (colsOf f))[i] = _ from this]
  simp [h3, rowI]
set_option maxRecDepth 100000 in
set_option maxHeartbeats 2000000 in
theorem row_in (n0 : Nat) (hn0 : 6 ≤ n0) (v : Value) (f : List (List Int)) (x q : Int) (X : Nat → Prop) (w : World) (hf : Sl (encS encU) X w v f) (hx : U64 x) (hl1 : f.length ≤ 100000) (hl2 : ∀ c ∈ f, c.length ≤ 100000) :
    CallsIn Fence.wide n0 Tryz.prog 30 #[v, .int .u64 x, .int .u64 q] w (Gives encU (fun g => w.heap.size ≤ g) w (rowI q f x)) := by
  have h1 : 1 ≤ n0 := by omega
  have HF := Lib.hid hf
  have HX := Lib.hid hx
  have HWB : Hid (wideI f ≤ 100000) := Lib.hid (wide_le f _ hl2)
  obtain ⟨A1, c1, rfl, _, _⟩ := hf.form
  have HWI := Lib.hid (fun w' (hw : w.grownBy w' none) => wide_any _ f X w' (hf.kept hw) hl2)
  clear hf hx
  obtain ⟨n, hn⟩ : ∃ n, n = wideI f := ⟨_, rfl⟩
  have HN := Lib.hid hn
  rw [← hn] at HWI HWB
  have hn9 : n ≤ 100000 := HWB.out
  have hmk := run_make_row' (P := Tryz.prog) 29 22 (.int .u64 0) 8 Tryz.underlying29 info_u64 rfl .i64 .i64 n (by omega) (by omega)
  have HG2 : Hid (w.grownBy ((w.alloc (.cells #[.int .u64 x] 22)).alloc (.cells #[.int .u64 q] 22)) none) := Lib.hid ((World.grownBy_alloc w _ none).trans (World.grownBy_alloc _ _ none))
  clear hn
  refine callsIn_of_wp_marks Tryz.func30 rfl trivial ?_ rfl
  simp only [Tryz.ntmps30, List.size_toArray, List.length_cons, List.length_nil, Nat.reduceAdd, Nat.reduceSub, Array.replicate_succ, Array.replicate_zero, List.push_toArray, List.append_toArray, List.nil_append, List.cons_append]
  gi_wp2_with (refine ⟨trivial, ?_⟩; refine (callsIn_wide.2 (HWI.out _ HG2.out)).mono ?_; rintro e w' ⟨rfl, hw'⟩; subst hw')
  have HBS : Hid (Bk ((((w.alloc (.cells #[.int .u64 x] 22)).alloc (.cells #[.int .u64 q] 22)).alloc (.cells (madeCells #[.int .u64 0] n) 22)).alloc (.cells #[.slice (some ⟨w.heap.size + 1 + 1, 0, none⟩) n n] 29)) w.heap.size 22 #[.int .u64 x] ∧ Bk ((((w.alloc (.cells #[.int .u64 x] 22)).alloc (.cells #[.int .u64 q] 22)).alloc (.cells (madeCells #[.int .u64 0] n) 22)).alloc (.cells #[.slice (some ⟨w.heap.size + 1 + 1, 0, none⟩) n n] 29)) (w.heap.size + 1) 22 #[.int .u64 q] ∧ Bk ((((w.alloc (.cells #[.int .u64 x] 22)).alloc (.cells #[.int .u64 q] 22)).alloc (.cells (madeCells #[.int .u64 0] n) 22)).alloc (.cells #[.slice (some ⟨w.heap.size + 1 + 1, 0, none⟩) n n] 29)) (w.heap.size + 1 + 1) 22 (nums (List.replicate n 0)).toArray ∧ Boxed ((((w.alloc (.cells #[.int .u64 x] 22)).alloc (.cells #[.int .u64 q] 22)).alloc (.cells (madeCells #[.int .u64 0] n) 22)).alloc (.cells #[.slice (some ⟨w.heap.size + 1 + 1, 0, none⟩) n n] 29)) (w.heap.size + 1 + 1 + 1) 29 (.slice (some ⟨w.heap.size + 1 + 1, 0, none⟩) n n) ∧ w.grownBy ((((w.alloc (.cells #[.int .u64 x] 22)).alloc (.cells #[.int .u64 q] 22)).alloc (.cells (madeCells #[.int .u64 0] n) 22)).alloc (.cells #[.slice (some ⟨w.heap.size + 1 + 1, 0, none⟩) n n] 29)) none ∧ ((((w.alloc (.cells #[.int .u64 x] 22)).alloc (.cells #[.int .u64 q] 22)).alloc (.cells (madeCells #[.int .u64 0] n) 22)).alloc (.cells #[.slice (some ⟨w.heap.size + 1 + 1, 0, none⟩) n n] 29)).heap.size = w.heap.size + 1 + 1 + 1 + 1) := Lib.hid (by
    have e1 : (w.alloc (.cells #[.int .u64 x] 22)).heap.size = w.heap.size + 1 := by simp
    have e2 : ((w.alloc (.cells #[.int .u64 x] 22)).alloc (.cells #[.int .u64 q] 22)).heap.size = w.heap.size + 1 + 1 := by simp
    have e3 : (((w.alloc (.cells #[.int .u64 x] 22)).alloc (.cells #[.int .u64 q] 22)).alloc (.cells (madeCells #[.int .u64 0] n) 22)).heap.size = w.heap.size + 1 + 1 + 1 := by simp
    have b1 := (Bk.new (w.alloc (.cells #[.int .u64 x] 22)) 22 #[.int .u64 q]).alloc (.cells (madeCells #[.int .u64 0] n) 22) |>.alloc (.cells #[.slice (some ⟨w.heap.size + 1 + 1, 0, none⟩) n n] 29)
    have b2 := (Bk.new ((w.alloc (.cells #[.int .u64 x] 22)).alloc (.cells #[.int .u64 q] 22)) 22 (madeCells #[.int .u64 0] n)).alloc (.cells #[.slice (some ⟨w.heap.size + 1 + 1, 0, none⟩) n n] 29)
    have b3 := Boxed.new (((w.alloc (.cells #[.int .u64 x] 22)).alloc (.cells #[.int .u64 q] 22)).alloc (.cells (madeCells #[.int .u64 0] n) 22)) 29 (.slice (some ⟨w.heap.size + 1 + 1, 0, none⟩) n n)
    rw [e1] at b1
    rw [e2] at b2
    rw [e3] at b3
    exact ⟨(((Bk.new w 22 #[.int .u64 x]).alloc _).alloc _).alloc _, b1, b2.of_eq (Array.toList_inj.1 (by rw [toList_madeCells_one]; simp [nums])), b3, (HG2.out.trans (World.grownBy_alloc _ _ none)).trans (World.grownBy_alloc _ _ none), by simp⟩)
  have HCO := Lib.hid (columns_any A1 f.length c1 ((((w.alloc (.cells #[.int .u64 x] 22)).alloc (.cells #[.int .u64 q] 22)).alloc (.cells (madeCells #[.int .u64 0] n) 22)).alloc (.cells #[.slice (some ⟨w.heap.size + 1 + 1, 0, none⟩) n n] 29)))
  obtain ⟨Wm, hWm⟩ : ∃ Wm, ((((w.alloc (.cells #[.int .u64 x] 22)).alloc (.cells #[.int .u64 q] 22)).alloc (.cells (madeCells #[.int .u64 0] n) 22)).alloc (.cells #[.slice (some ⟨w.heap.size + 1 + 1, 0, none⟩) n n] 29)) = Wm := ⟨_, rfl⟩
  rw [hWm] at HBS HCO ⊢
  clear hWm hmk HWI HG2
  refine ⟨trivial, ?_⟩
  refine (callsIn_wide.2 HCO.out).mono ?_
  rintro e W0 ⟨rfl, b1, b2, b3, hg, hsz⟩
  clear HCO
  obtain ⟨k1, k2, k3, k4, k5, k6⟩ := HBS.out
  have bx := k1.grown hg (by simp)
  have bq := k2.grown hg (by simp)
  have bo := k3.grown hg (by simp)
  have bs := k4.kept hg (by simp)
  have hB0 : Below w.heap.size w W0 := below_grown (k5.trans hg)
  rw [k6] at b1 b2 b3 hsz ⊢
  clear k1 k2 k3 k4 k5 k6 hg HBS
  dsimp only
  gi_wp2
  refine wpIn_rangeFunc_goes rfl h1 (gf := 94) (lb := #[.pointer (some ⟨w.heap.size + 1 + 1 + 1 + 1, 0, none⟩), .pointer (some ⟨w.heap.size + 1 + 1 + 1 + 1 + 1 + 1, 0, none⟩)]) rfl trivial (enters_of Tryz.func94 (by kernel_rfl) rfl)
    (columns_goes (n0 - 1) (by omega) _ _ _ _ f X w W0 hB0 b1 b2 b3 HF.out hl1 hl2) Kp3.trans (Kp3.b (by omega) (by omega) (by omega) (by omega)) (Below.refl _ _) (fun _ => rfl)
    (fun pre W => Bk W w.heap.size 22 #[.int .u64 x] ∧ Bk W (w.heap.size + 1) 22 #[.int .u64 q] ∧ Bk W (w.heap.size + 1 + 1) 22 (nums (outArr q x n (pre.map fun e : Colx => (e.j, e.c)))).toArray ∧ Boxed W (w.heap.size + 1 + 1 + 1) 29 (.slice (some ⟨w.heap.size + 1 + 1, 0, none⟩) n n) ∧ Below w.heap.size w W ∧ W0.heap.size ≤ W.heap.size)
    (fun pre X' Y row hs hg hrow => by
      obtain ⟨s1, s2, s3, s4, s5, s6⟩ := hs
      have hr' := fun r e => (hrow r e).2
      have l3 := s3.lt
      have n3 : some (w.heap.size + 1 + 1) ≠ row := fun e => by
        obtain ⟨o, ho, hc⟩ := hr' _ e.symm
        rw [show X'.heap[w.heap.size + 1 + 1]? = _ from s3] at ho
        cases ho
        cases hc
      exact ⟨s1.grown hg (cell_ne (s1.cell 0) hr'), s2.grown hg (cell_ne (s2.cell 0) hr'), s3.grown hg n3, s4.kept hg (boxNe s4 hr'), s5.grown hg s5.size (fun k e => by have := (hrow k e).1; omega), Nat.le_trans s6 hg.size⟩)
    ⟨bx, bq, by simpa [outArr] using bo, bs, hB0, Nat.le_refl _⟩
    (fun e a' W => (Sl encU (fun g => W0.heap.size ≤ g) W e.v e.c ∧ e.j < n) ∧ a' = { tmps := #[.slice A1 f.length c1, .int .u64 x, .int .u64 q, undef, .pointer (some ⟨w.heap.size, 0, none⟩), .pointer (some ⟨w.heap.size + 1, 0, none⟩), .slice none 0 0, .pointer (some ⟨w.heap.size + 1 + 1 + 1, 0, none⟩), .int .i64 e.j, e.v, .slice A1 f.length c1, .int .i64 n, .slice (some ⟨w.heap.size + 1 + 1, 0, none⟩) n n, .slice A1 f.length c1, .func (.func 94) #[] #[.pointer (some ⟨w.heap.size + 1 + 1 + 1 + 1, 0, none⟩), .pointer (some ⟨w.heap.size + 1 + 1 + 1 + 1 + 1 + 1, 0, none⟩)], .int .i64 e.j, e.v, undef, undef, undef, undef, undef, undef, undef, undef], defers := [] })
    (fun e a' _ X' Y row hs hg hrow => ⟨⟨hs.1.1.keepc hg (fun r e => (hrow r e).2), hs.1.2⟩, hs.2⟩)
    ?assign ?body ?done
  case assign =>
    rintro l pre e W K hi hfx hK
    have hfx2 : e.j < n := by have := hfx.2; rwa [← HN.out] at this
    have hfx1 := hfx.1
    have hk2 := hK _ W (KeepsFrom.refl _ _) (Kp3.refl _ _ _ _ _) hi ⟨⟨hfx1, hfx2⟩, rfl⟩
    clear hK hi hfx
    gi_wp2
    exact hk2
  case body =>
    rintro l pre ⟨j, vc, lc⟩ a' W hl ⟨hbx, hbq, hbo, hbs, hbl, hws⟩ ⟨⟨hsl, hjn⟩, rfl⟩ hlt
    have hsl : Sl encU (fun g => W0.heap.size ≤ g) W vc lc := hsl
    have hjn : j < n := hjn
    obtain ⟨Ac, cc, rfl, _, _⟩ := hsl.form
    have hj0 : (0 : Int) ≤ (j : Int) := by omega
    have hjI : (j : Int) < (n : Int) := by omega
    have HBX : Hid (Boxed W.drew (w.heap.size + 1 + 1 + 1) 29 (.slice (some ⟨w.heap.size + 1 + 1, 0, none⟩) n n)) := Lib.hid hbs
    have HBx : Hid (Bk W.drew w.heap.size 22 #[.int .u64 x]) := Lib.hid (hbx.drewN 1)
    have HBq : Hid (Bk W.drew (w.heap.size + 1) 22 #[.int .u64 q]) := Lib.hid (hbq.drewN 1)
    have HBO : Hid (Bk W.drew (w.heap.size + 1 + 1) 22 (nums (outArr q x n (pre.map fun e : Colx => (e.j, e.c)))).toArray) := Lib.hid (hbo.drewN 1)
    have HEV : Hid (∀ w', W.drew.grownBy w' none → Calls Tryz.prog 37 #[.slice Ac lc.length cc, .int .u64 x, .int .u64 q] w' fun e w'' => e = .returned (.int .u64 (evalI q lc x)) ∧ w'.grownBy w'' none) := Lib.hid (fun w' hw => eval_any _ lc x q _ w' (hsl.kept ((grown_drewN' W 1).trans hw)) HX.out)
    have HBL := Lib.hid hbl
    have HLL : Hid ((outArr q x n (pre.map fun e : Colx => (e.j, e.c))).length = n) := Lib.hid (outArr_length _ _ _ _)
    have HSN : Hid (outArr q x n ((pre ++ [(⟨j, .slice Ac lc.length cc, lc⟩ : Colx)]).map fun e : Colx => (e.j, e.c)) = (outArr q x n (pre.map fun e : Colx => (e.j, e.c))).set j (evalI q lc x)) := Lib.hid (by rw [List.map_append]; exact outArr_snoc _ _ _ _ _)
    have HWL : Hid (w.heap.size + 1 + 1 + 1 + 1 + 1 + 1 + 1 = W0.heap.size ∧ W0.heap.size ≤ W.heap.size) := Lib.hid ⟨by rw [hsz], hws⟩
    have HWW : Hid (w.heap.size + 1 + 1 + 1 + 1 + 1 + 1 < W.heap.size) := Lib.hid (by omega)
    obtain ⟨H0, hH0⟩ : ∃ H0, H0 = outArr q x n (pre.map fun e : Colx => (e.j, e.c)) := ⟨_, rfl⟩
    rw [← hH0] at HBO HLL HSN
    obtain ⟨ev, hev⟩ : ∃ ev, ev = evalI q lc x := ⟨_, rfl⟩
    have HEVE := Lib.hid hev
    clear hbx hbq hbo hbs hbl hsl hlt hH0 hev
    dsimp only
    gi_wp2
    refine wpIn_round_any (l0 := l) (R := fun _ W5 => KeepsFrom W0.heap.size W W5 ∧ Kp3 w.heap.size (w.heap.size + 1 + 1 + 1 + 1) (w.heap.size + 1 + 1 + 1 + 1 + 1) (w.heap.size + 1 + 1 + 1 + 1 + 1 + 1) W W5 ∧ Bk W5 w.heap.size 22 #[.int .u64 x] ∧ Bk W5 (w.heap.size + 1) 22 #[.int .u64 q] ∧ Bk W5 (w.heap.size + 1 + 1) 22 (nums (outArr q x n ((pre ++ [(⟨j, .slice Ac lc.length cc, lc⟩ : Colx)]).map fun e : Colx => (e.j, e.c)))).toArray ∧ Boxed W5 (w.heap.size + 1 + 1 + 1) 29 (.slice (some ⟨w.heap.size + 1 + 1, 0, none⟩) n n) ∧ Below w.heap.size w W5 ∧ W0.heap.size ≤ W5.heap.size) (by kernel_rfl) (by kernel_rfl) (fun a w h => ⟨rfl, h⟩) ?_
    refine wpAny_monoR 7 (by kernel_rfl) ?_
    -- op 0 (slot 17): load
    refine MonoR.step (Pv.eq (.slice (some ⟨w.heap.size + 1 + 1, 0, none⟩) n n)) [] (by kernel_rfl) (fun w' hw' => ?_) ?_
    · refine ask_do rfl fun K hK => ?_
      have hb7 := (HBX.out.kept hw' (by simp)).cell
      have hb4 := (HBx.out.grown hw' (by simp)).cell 0
      have hb5 := (HBq.out.grown hw' (by simp)).cell 0
      simp at hb4 hb5
      go_simp
      exact hK _ _ rfl rfl (World.grownBy.refl _ none)
    -- op 1 (slot 18): move
    refine MonoR.step (Pv.eq (.int .i64 (j : Int))) [] (by kernel_rfl) (fun w' hw' => ?_) ?_
    · refine ask_do rfl fun K hK => ?_
      go_simp
      exact hK _ _ rfl rfl (World.grownBy.refl _ none)
    -- op 2 (slot 19): move
    refine MonoR.step (Pv.eq (.slice Ac lc.length cc)) [] (by kernel_rfl) (fun w' hw' => ?_) ?_
    · refine ask_do rfl fun K hK => ?_
      go_simp
      exact hK _ _ rfl rfl (World.grownBy.refl _ none)
    -- op 3 (slot 20): load
    refine MonoR.step (Pv.eq (.int .u64 x)) [] (by kernel_rfl) (fun w' hw' => ?_) ?_
    · refine ask_do rfl fun K hK => ?_
      have hb7 := (HBX.out.kept hw' (by simp)).cell
      have hb4 := (HBx.out.grown hw' (by simp)).cell 0
      have hb5 := (HBq.out.grown hw' (by simp)).cell 0
      simp at hb4 hb5
      go_simp
      exact hK _ _ rfl rfl (World.grownBy.refl _ none)
    -- op 4 (slot 21): load
    refine MonoR.step (Pv.eq (.int .u64 q)) [] (by kernel_rfl) (fun w' hw' => ?_) ?_
    · refine ask_do rfl fun K hK => ?_
      have hb7 := (HBX.out.kept hw' (by simp)).cell
      have hb4 := (HBx.out.grown hw' (by simp)).cell 0
      have hb5 := (HBq.out.grown hw' (by simp)).cell 0
      simp at hb4 hb5
      go_simp
      exact hK _ _ rfl rfl (World.grownBy.refl _ none)
    -- op 5 (slot 22): call
    refine MonoR.step (Pv.eq (.int .u64 (evalI q lc x))) [(2, 19), (3, 20), (4, 21)] (by kernel_rfl) (fun w' hw' => ?_) ?_
    · rintro _ rfl
      rintro _ rfl
      rintro _ rfl
      refine ask_do rfl fun K hK => ?_
      go_simp
      refine (HEV.out w' hw').mono ?_
      rintro e w3 ⟨rfl, hg⟩
      exact hK _ _ rfl rfl hg
    -- op 6 (slot 23): indexAddr
    refine MonoR.step (Pv.eq (.pointer (some ⟨w.heap.size + 1 + 1, j, none⟩))) [(0, 17), (1, 18)] (by kernel_rfl) (fun w' hw' => ?_) ?_
    · rintro _ rfl
      rintro _ rfl
      refine ask_do rfl fun K hK => ?_
      go_simp
      exact hK _ _ rfl rfl (World.grownBy.refl _ none)
    intro w3 hw3
    iterate 5 (intro _ _)
    rintro _ rfl
    rintro _ rfl
    have hbo3 := HBO.out.grown hw3 (by simp)
    have hcl : w3.cell? ⟨w.heap.size + 1 + 1, j, none⟩ = some (.int .u64 (H0[j]'(by rw [HLL.out]; exact hjn))) := by rw [hbo3.cell j]; simp [nums, HLL.out, hjn]
    have hfr := hbo3.free j
    have hgd : W.grownBy w3 none := (grown_drewN' W 1).trans hw3
    have hbo5 := (hbo3.set j (.int .u64 ev)).of_eq (cs' := (nums (H0.set j ev)).toArray) (by simp [nums, List.map_set])
    have hbx5 := (HBx.out.grown hw3 (by simp)).far (p := ⟨w.heap.size + 1 + 1, j, none⟩) (by simp; omega) (.int .u64 ev)
    have hbq5 := (HBq.out.grown hw3 (by simp)).far (p := ⟨w.heap.size + 1 + 1, j, none⟩) (by simp) (.int .u64 ev)
    have hbs5 := Bk.far (HBX.out.kept hw3 (by simp)) (p := ⟨w.heap.size + 1 + 1, j, none⟩) (by simp) (.int .u64 ev)
    have hkf : KeepsFrom W0.heap.size W (w3.setCell ⟨w.heap.size + 1 + 1, j, none⟩ (.int .u64 ev)) := ((keeps_none hgd).trans (KeepsOthers.setCell _ _ _)).from _
    have hWS : w.heap.size + 1 + 1 + 1 + 1 + 1 + 1 < W.heap.size := HWW.out
    have hkp : Kp3 w.heap.size (w.heap.size + 1 + 1 + 1 + 1) (w.heap.size + 1 + 1 + 1 + 1 + 1) (w.heap.size + 1 + 1 + 1 + 1 + 1 + 1) W (w3.setCell ⟨w.heap.size + 1 + 1, j, none⟩ (.int .u64 ev)) :=
      (Kp3.grown hgd (by omega) (by omega) (by omega) hWS).trans ⟨(Below.refl _ w3).setCell (p := ⟨w.heap.size + 1 + 1, j, none⟩) (by simp; omega) _, Below.heap_setCell w3 _ _ _ (by simp; omega), Below.heap_setCell w3 _ _ _ (by simp; omega), Below.heap_setCell w3 _ _ _ (by simp; omega)⟩
    have hbl5 : Below w.heap.size w (w3.setCell ⟨w.heap.size + 1 + 1, j, none⟩ (.int .u64 ev)) := (HBL.out.trans ((below_grown hgd).mono (by omega))).setCell (p := ⟨w.heap.size + 1 + 1, j, none⟩) (by simp; omega) _
    rw [HSN.out, ← HEVE.out]
    have FIN := Lib.hid (And.intro hkf (And.intro hkp (And.intro hbx5 (And.intro hbq5 (And.intro hbo5 (And.intro hbs5 (And.intro hbl5 (show W0.heap.size ≤ (w3.setCell ⟨w.heap.size + 1 + 1, j, none⟩ (.int .u64 ev)).heap.size by have := hgd.size; have := HWL.out.2; simp; omega))))))))
    clear hbo3 hgd hbo5 hbx5 hbq5 hbs5 hkf hkp hbl5 hw3
    rw [HEVE.out] at FIN
    rw [HEVE.out]
    refine wpList_plain rfl fun K hK => ?_
    go_simp
    refine hK _ _ (wpList_nil ?_)
    exact ⟨rfl, FIN.out⟩
  case done =>
    rintro D zs W hD hzs ⟨hbx, hbq, hbo, hbs, hbl, _⟩ hK
    have hcs := hbs.cell
    rw [hzs, HN.out, outArr_all] at hbo
    have hlen : (rowI q f x).length = n := by simp [rowI, HN.out]
    have HR : Hid (Sl encU (fun g => w.heap.size ≤ g) (W.putObj D (.deferred none)) (.slice (some ⟨w.heap.size + 1 + 1, 0, none⟩) n n) (rowI q f x) ∧ w.grownBy (W.putObj D (.deferred none)) none) := Lib.hid ⟨by
      have hb2 := hbo.grown (grownBy_putObj' W D (.deferred none)) (fun e => by injection e with e; omega)
      have := Sl.block (E := encU) (X := fun g => w.heap.size ≤ g) (xs := rowI q f x) (c := n) hb2 (by omega) ((nums (rowI q f x)).map fun v => [v]) (by simp [nums]) (fun i hi hi' => ⟨by simp [nums], by simp only [rowI, List.getElem_map]; exact evalI_U64 _ _ _⟩) (by rw [flatten_singles]) (by rw [hlen]; exact Nat.le_refl _) (by omega)
      rwa [hlen] at this, grown_of_below (hbl.trans (belowK_b (w := w) (Nat.le_refl _) W D _ _ (by omega) hK rfl rfl))⟩
    clear hbo hbx hbq hbs hbl
    gi_wp2
    refine ⟨by simp, .inl ⟨_, _, rfl, run_takeDeferred hK, ?_⟩⟩
    refine ⟨_, results_tmp rfl _ _ _, .slice (some ⟨w.heap.size + 1 + 1, 0, none⟩) n n, rfl, HR.out.1, HR.out.2⟩
end Go.Proofs.YthicondcjeipfaaGreatDoor

namespace Go.Proofs.YthicondcjeipfaaGreatDoor
open Go Go.RowKit

def colArr (q y : Int) (f : List (List Int)) (j : Nat) : List Int := (f.take j).map (fun c => evalI q c y) ++ List.replicate (f.length - j) 0
theorem colArr_length (q y : Int) (f : List (List Int)) (j : Nat) (h : j ≤ f.length) : (colArr q y f j).length = f.length := by simp [colArr]; omega
theorem colArr_set (q y : Int) (f : List (List Int)) (j : Nat) (h : j < f.length) : (colArr q y f j).set j (evalI q f[j] y) = colArr q y f (j + 1) := by
  refine List.ext_getElem (by rw [List.length_set, colArr_length _ _ _ _ (by omega), colArr_length _ _ _ _ (by omega)]) fun i h1 h2 => ?_
  rw [colArr_length _ _ _ _ (by omega)] at h2
  rw [List.getElem_set]
  split
  · rename_i e
    subst e
    simp only [colArr]
    rw [List.getElem_append_left (by simp; omega)]
    simp
  · rename_i e
    simp only [colArr]
    by_cases hi : i < j
    · rw [List.getElem_append_left (by simp; omega), List.getElem_append_left (by simp; omega)]
      simp
    · rw [List.getElem_append_right (by simp; omega), List.getElem_append_right (by simp; omega)]
      simp
set_option maxRecDepth 100000 in
set_option maxHeartbeats 1000000 in
theorem col_any (v : Value) (f : List (List Int)) (y q : Int) (X : Nat → Prop) (w : World) (hf : Sl (encS encU) X w v f) (hy : U64 y) (hl1 : f.length ≤ 100000) :
    Calls Tryz.prog 31 #[v, .int .u64 y, .int .u64 q] w (Gives encU (fun g => w.heap.size ≤ g) w (colV q f y)) := by
  have HF := Lib.hid hf
  have HY := Lib.hid hy
  obtain ⟨A, c, rfl, hc1, hc2⟩ := hf.form
  clear hf hy
  have hmk := run_make_row' (P := Tryz.prog) 29 22 (.int .u64 0) 8 Tryz.underlying29 info_u64 rfl .i64 .i64 f.length (by omega) (by omega)
  have HST : Hid (Bk (w.alloc (.cells (madeCells #[.int .u64 0] f.length) 22)) w.heap.size 22 (nums (colArr q y f 0)).toArray ∧ w.grownBy (w.alloc (.cells (madeCells #[.int .u64 0] f.length) 22)) none) := Lib.hid ⟨(Bk.new w 22 (madeCells #[.int .u64 0] f.length)).of_eq (Array.toList_inj.1 (by rw [toList_madeCells_one]; simp [nums, colArr])), World.grownBy_alloc w _ none⟩
  go_enter Tryz.func31, Tryz.ntmps31
  go_wp2_with fail
  go_loopg [15] f.length (fun g s15 wx => ∃ j : Nat, j + g = f.length ∧ s15 = .int .i64 j ∧ Hid (Bk wx w.heap.size 22 (nums (colArr q y f j)).toArray ∧ w.grownBy wx none))
  case atStart => exact ⟨0, by omega, rfl, HST⟩
  case round =>
    obtain ⟨j, hj, rfl, HX⟩ := hrel
    cases gk with
    | zero =>
      obtain rfl : j = f.length := by omega
      have HR : Hid (Sl encU (fun g => w.heap.size ≤ g) wr (.slice (some ⟨w.heap.size, 0, none⟩) f.length f.length) (colV q f y) ∧ w.grownBy wr none) := Lib.hid ⟨by
        have h1 := HX.out.1
        rw [show colArr q y f f.length = colV q f y by simp [colArr, colV]] at h1
        have := Sl.block (E := encU) (X := fun g => w.heap.size ≤ g) (xs := colV q f y) (c := f.length) h1 (Nat.le_refl _) ((nums (colV q f y)).map fun v => [v]) (by simp [nums]) (fun i hi hi' => ⟨by simp [nums], by simp only [colV, List.getElem_map]; exact evalI_U64 _ _ _⟩) (by rw [flatten_singles]) (by simp [colV]) (by omega)
        rwa [show (colV q f y).length = f.length by simp [colV]] at this, HX.out.2⟩
      clear HX HST hmk
      go_wp2
      go_ret
      exact ⟨_, rfl, HR.out.1, HR.out.2⟩
    | succ m =>
      have hjn : (j : Int) < (f.length : Int) := by omega
      have hjN : j < f.length := by omega
      have hj0 : (0 : Int) ≤ (j : Int) := by omega
      obtain ⟨g, o, c', u, e, _, _, hcu, hsu⟩ := (HF.out.kept HX.out.2).atS hjN
      injection e with e1 e2 e3
      subst e1 e3
      obtain ⟨A1, c1, e1, _, _⟩ := hsu.form
      subst e1
      have HEV := Lib.hid (eval_any _ f[j] y q _ wr hsu HY.out)
      have HSN := Lib.hid (colArr_set q y f j hjN)
      have HLL := Lib.hid (colArr_length q y f j (by omega))
      have HB := Lib.hid HX.out.1
      have HG := Lib.hid HX.out.2
      clear hsu e2 HX HST hmk
      generalize colArr q y f j = H0 at *
      generalize f[j] = L at *
      generalize L.length = n1 at *
      go_wp2_with fail
      refine HEV.out.mono ?_
      rintro e w1 ⟨rfl, hg1⟩
      have hb1 := HB.out.grown hg1 (by simp)
      have hcl : w1.cell? ⟨w.heap.size, j, none⟩ = some (.int .u64 (H0[j]'(by rw [HLL.out]; exact hjN))) := by rw [hb1.cell j]; simp [nums, HLL.out, hjN]
      have hfr := hb1.free j
      have HFIN : Hid (Bk (w1.setCell ⟨w.heap.size, j, none⟩ (.int .u64 (evalI q L y))) w.heap.size 22 (nums (colArr q y f (j + 1))).toArray ∧ w.grownBy (w1.setCell ⟨w.heap.size, j, none⟩ (.int .u64 (evalI q L y))) none) := Lib.hid ⟨(hb1.set j _).of_eq (by rw [← HSN.out]; simp [nums, List.map_set]), grown_up (HG.out.trans hg1) (grownBy_set (World.grownBy.refl _ (some w.heap.size)) j _) (fun g e => by injection e with e; omega)⟩
      clear hg1 hb1
      go_wp2_with fail
      go_roundg m
      case measure => omega
      case rel => exact ⟨j + 1, by omega, by go_num, HFIN⟩
end Go.Proofs.YthicondcjeipfaaGreatDoor

namespace Go.Proofs.YthicondcjeipfaaGreatDoor
open Go Go.RowKit Go.Shelf

theorem info_pairs2 : (Tryz.prog.info? 41).map (fun i => (i.zero, i.size, i.bytes)) = some (some (.slice none 0 0), 1, 24) := by kernel_rfl
theorem el_pairs2 : ElemOk Tryz.prog 31 41 1 24 := ElemOk.mk' (by decide) Tryz.underlying31 info_pairs2 rfl
/-- A polynomial of two that is drawn. -/
def twoL (x q : Int) (dr : Nat → Int) (t k : Nat) : List (List Int) := chk t (behI x q dr (t * t - 1) k) t
def makeF (l : List (Int × Int)) (q : Int) (dr : Nat → Int) (t k s : Nat) : List (List Int) := twoL (l[s]?.getD (0, 0)).1 q dr t (k + s * (2 * (t * t - 1)))
def makeB (l : List (Int × Int)) (q : Int) (dr : Nat → Int) (t k s : Nat) : List (List Int) := twoL (l[s]?.getD (0, 0)).2 q dr t (k + s * (2 * (t * t - 1)) + (t * t - 1))
def makeFs (l : List (Int × Int)) (q : Int) (dr : Nat → Int) (t k n : Nat) : List (List (List Int)) := (List.range n).map (makeF l q dr t k)
def makeBs (l : List (Int × Int)) (q : Int) (dr : Nat → Int) (t k n : Nat) : List (List (List Int)) := (List.range n).map (makeB l q dr t k)
theorem hsnoc {α : Type} (f : Nat → α) (n : Nat) : (List.range (n + 1)).map f = (List.range n).map f ++ [f n] := by simp [List.range_succ]
/-- What member j gets of each secret. -/
def rowP (q : Int) (F B : List (List (List Int))) (t : Nat) (j : Int) (s : Nat) : List (Int × Int) := zipP (rowI q (F[s]?.getD []) j) (rowI q (B[s]?.getD []) j) t
def colP (q : Int) (F B : List (List (List Int))) (t : Nat) (j : Int) (s : Nat) : List (Int × Int) := zipP (colV q (F[s]?.getD []) j) (colV q (B[s]?.getD []) j) t
def rowsP (q : Int) (F B : List (List (List Int))) (t : Nat) (j : Int) : List (List (Int × Int)) := (List.range F.length).map (rowP q F B t j)
def colsP (q : Int) (F B : List (List (List Int))) (t : Nat) (j : Int) : List (List (Int × Int)) := (List.range F.length).map (colP q F B t j)
/-- A square. -/
def SqL (t : Nat) (M : List (List Int)) : Prop := M.length = t ∧ ∀ c ∈ M, c.length = t
theorem twoL_sq (x q : Int) (dr : Nat → Int) (t k : Nat) (ht : 1 ≤ t) : SqL t (twoL x q dr t k) := by
  refine ⟨chk_length _ _ _, fun c hc => ?_⟩
  obtain ⟨i, hi, rfl⟩ := List.mem_map.1 hc
  have hi2 : i < t := List.mem_range.1 hi
  have h1 : (i + 1) * t ≤ t * t := Nat.mul_le_mul_right _ hi2
  have h2 : 1 * 1 ≤ t * t := Nat.mul_le_mul ht ht
  rw [Nat.add_mul, Nat.one_mul] at h1
  rw [List.length_take, List.length_drop, behI_len]
  omega
theorem makeFs_sq (l : List (Int × Int)) (q : Int) (dr : Nat → Int) (t k n : Nat) (ht : 1 ≤ t) : ∀ M ∈ makeFs l q dr t k n, SqL t M := fun M hM => by
  obtain ⟨i, _, rfl⟩ := List.mem_map.1 hM
  exact twoL_sq _ _ _ _ _ ht
theorem makeBs_sq (l : List (Int × Int)) (q : Int) (dr : Nat → Int) (t k n : Nat) (ht : 1 ≤ t) : ∀ M ∈ makeBs l q dr t k n, SqL t M := fun M hM => by
  obtain ⟨i, _, rfl⟩ := List.mem_map.1 hM
  exact twoL_sq _ _ _ _ _ ht
theorem foldl_same (t : Nat) : ∀ (M : List (List Int)) (n : Nat), (∀ c ∈ M, c.length = t) → M.foldl (fun n c => max n c.length) n = if M = [] then n else max n t
  | [], n, _ => rfl
  | c :: M, n, h => by
    rw [List.foldl_cons, foldl_same t M _ (fun c hc => h c (List.mem_cons_of_mem _ hc)), h c List.mem_cons_self]
    split <;> simp
theorem wide_sqL {t : Nat} {M : List (List Int)} (h : SqL t M) : wideI M = t := by
  unfold wideI
  rw [foldl_same t M 0 h.2]
  obtain ⟨h1, _⟩ := h
  split
  · rename_i e
    rw [e] at h1
    exact h1
  · omega
theorem rowI_sqL {t : Nat} {M : List (List Int)} (h : SqL t M) (q x : Int) : (rowI q M x).length = t := by simp [rowI, wide_sqL h]
theorem colV_sqL {t : Nat} {M : List (List Int)} (h : SqL t M) (q x : Int) : (colV q M x).length = t := by simp [colV, h.1]
/-- The worlds while two lists of a struct are appended to, one behind the other. -/
def twLt {α : Type} (E : Enc α) (ty tE : TypeId) (w4 : World) (Bd lo hi : Nat) (cs : Array Value) (vW vB vy vz : Value) (xs ys : List α) (y z : α) : Lt where
  C vs w := w4.grownBy w (some Bd) ∧ Bk w Bd ty cs ∧ hi ≤ w.heap.size ∧ E.rep (fun g => lo ≤ g ∧ g < hi) w [vy] y ∧ E.rep (fun g => lo ≤ g ∧ g < hi) w [vz] z ∧ match vs with
    | [] => Side E E w4.heap.size tE tE (fun g => w4.heap.size ≤ g) w vW vB xs ys
    | [u] => Side E E w4.heap.size tE tE (fun g => w4.heap.size ≤ g) w u vB (xs ++ [y]) ys ∧ ∀ g, u.ownBlock = some g → g < lo ∨ hi ≤ g
    | [u, u2] => Side E E w4.heap.size tE tE (fun g => w4.heap.size ≤ g) w u u2 (xs ++ [y]) (ys ++ [z])
    | _ => False
  R q w w' := w.grownBy w' (if q = 0 then vW.ownBlock else vB.ownBlock)
  g := fun {vs w w'} h hg => by
    obtain ⟨h1, h2, h3, h4, h5, h6⟩ := h
    refine ⟨h1.trans (hg.but _), h2.grown hg (by simp), Nat.le_trans h3 hg.size, E.keep h4 hg (by simp), E.keep h5 hg (by simp), ?_⟩
    match vs, h6 with
    | [], h6 => exact h6.kept hg
    | [u], h6 => exact ⟨h6.1.kept hg, h6.2⟩
    | [u, u2], h6 => exact h6.kept hg
def twQ {α : Type} {E : Enc α} {ty tE : TypeId} {w4 : World} {Bd lo hi : Nat} {cs : Array Value} {vW vB vy vz : Value} {xs ys : List α} {y z : α} (hW : ∀ g, vW.ownBlock = some g → g < lo) (hB : ∀ g, vB.ownBlock = some g → g < lo) (t : TypeId) (u : Value) : Qv (twLt E ty tE w4 Bd lo hi cs vW vB vy vz xs ys y z) where
  p _ v w := BlkQ lo t u v w
  fr := 0
  st := fun ⟨b, e, hb, hk⟩ hg => ⟨b, e, hb, hk.grown hg (by simp)⟩
  sr := fun {vs _ v w w'} _ _ hR ⟨b, e, hb, hk⟩ => by
    refine ⟨b, e, hb, hk.grown hR fun e => ?_⟩
    split at e
    · have := hW b e.symm; omega
    · have := hB b e.symm; omega
section
variable {α : Type} {E : Enc α} {ty tE : TypeId} {w4 w' w3 : World} {Bd lo hi : Nat} {cs : Array Value} {vW vB vy vz u v3 : Value} {xs ys : List α} {y z : α}
theorem twLt_one (hC : (twLt E ty tE w4 Bd lo hi cs vW vB vy vz xs ys y z).C [] w') (ha : Acc E w4.heap.size tE (fun g => w4.heap.size ≤ g ∧ some g ≠ vB.ownBlock) w3 v3 (xs ++ [y])) (hgr : w'.grownBy w3 vW.ownBlock) (hm : Moved w' vW v3) (hW : ∀ g, vW.ownBlock = some g → g < lo) (hd : Bd < w4.heap.size) : (twLt E ty tE w4 Bd lo hi cs vW vB vy vz xs ys y z).C [v3] w3 := by
  obtain ⟨h1, h2, h3, h4, h5, h6⟩ := hC
  have hS : Side E E w4.heap.size tE tE (fun g => w4.heap.size ≤ g) w' vW vB xs ys := h6
  refine ⟨h1.andThen hgr (fun j e => .inl (hS.fst.lt j e).1), h2.grown hgr (fun e => by have := (hS.fst.lt _ e.symm).1; omega), Nat.le_trans h3 hgr.size, E.keep h4 hgr (fun g hg e => by have := hW g e.symm; omega), E.keep h5 hgr (fun g hg e => by have := hW g e.symm; omega), hS.one ha hgr hm, fun g e => ?_⟩
  rcases hm with h | ⟨n, hn, h⟩
  · exact .inl (hW g (h ▸ e))
  · rw [h] at e
    injection e with e
    exact .inr (by omega)
theorem twLt_two (hC : (twLt E ty tE w4 Bd lo hi cs vW vB vy vz xs ys y z).C [u] w') (ha : Acc E w4.heap.size tE (fun g => w4.heap.size ≤ g ∧ some g ≠ u.ownBlock) w3 v3 (ys ++ [z])) (hgr : w'.grownBy w3 vB.ownBlock) (hm : Moved w' vB v3) (hB : ∀ g, vB.ownBlock = some g → g < lo) (hd : Bd < w4.heap.size) : (twLt E ty tE w4 Bd lo hi cs vW vB vy vz xs ys y z).C [u, v3] w3 := by
  obtain ⟨h1, h2, h3, h4, h5, h6⟩ := hC
  have hS : Side E E w4.heap.size tE tE (fun g => w4.heap.size ≤ g) w' u vB (xs ++ [y]) ys := h6.1
  exact ⟨h1.andThen hgr (fun j e => .inl (hS.snd.lt j e).1), h2.grown hgr (fun e => by have := (hS.snd.lt _ e.symm).1; omega), Nat.le_trans h3 hgr.size, E.keep h4 hgr (fun g hg e => by have := hB g e.symm; omega), E.keep h5 hgr (fun g hg e => by have := hB g e.symm; omega), hS.two ha hgr hm⟩
theorem twLt_rep1 (hC : (twLt E ty tE w4 Bd lo hi cs vW vB vy vz xs ys y z).C [] w') (hW : ∀ g, vW.ownBlock = some g → g < lo) (hB : ∀ g, vB.ownBlock = some g → g < lo) (hl : w4.heap.size ≤ lo) : E.rep (fun g => (w4.heap.size ≤ g ∧ some g ≠ vB.ownBlock) ∧ some g ≠ vW.ownBlock) w' [vy] y :=
  E.more hC.2.2.2.1 fun g _ hg => ⟨⟨by omega, fun e => by have := hB g e.symm; omega⟩, fun e => by have := hW g e.symm; omega⟩
theorem twLt_rep2 (hC : (twLt E ty tE w4 Bd lo hi cs vW vB vy vz xs ys y z).C [u] w') (hB : ∀ g, vB.ownBlock = some g → g < lo) (hl : w4.heap.size ≤ lo) : E.rep (fun g => (w4.heap.size ≤ g ∧ some g ≠ u.ownBlock) ∧ some g ≠ vB.ownBlock) w' [vz] z :=
  E.more hC.2.2.2.2.1 fun g _ hg => ⟨⟨by omega, fun e => by have := hC.2.2.2.2.2.2 g e.symm; omega⟩, fun e => by have := hB g e.symm; omega⟩
theorem twLt_end {t' : TypeId} {a : Value} {u2 : Value} (hC : (twLt E t' tE w4 Bd lo hi #[a, vW, vB] vW vB vy vz xs ys y z).C [u, u2] w') (hd : Bd < w4.heap.size) : Bk ((w'.setCell ⟨Bd, 1, none⟩ u).setCell ⟨Bd, 2, none⟩ u2) Bd t' #[a, u, u2] ∧ Side E E w4.heap.size tE tE (fun g => w4.heap.size ≤ g) ((w'.setCell ⟨Bd, 1, none⟩ u).setCell ⟨Bd, 2, none⟩ u2) u u2 (xs ++ [y]) (ys ++ [z]) ∧ w4.grownBy ((w'.setCell ⟨Bd, 1, none⟩ u).setCell ⟨Bd, 2, none⟩ u2) (some Bd) := by
  obtain ⟨h1, h2, _, _, _, h6⟩ := hC
  have hS : Side E E w4.heap.size tE tE (fun g => w4.heap.size ≤ g) w' u u2 (xs ++ [y]) (ys ++ [z]) := h6
  exact ⟨(h2.set 1 u).set 2 u2, (hS.keep (grownSet w' Bd 1 u) (fun g hg e => by injection e with e; omega)).keep (grownSet _ Bd 2 u2) (fun g hg e => by injection e with e; omega), (h1.andThen (grownSet w' Bd 1 u) (fun j e => .inr e)).andThen (grownSet _ Bd 2 u2) (fun j e => .inr e)⟩
end
/-- A slice of one list of pairs, made since N. -/
def blkP (N : Nat) (yr : List (Int × Int)) : Pv := ⟨fun v W => ∃ A n c b, v = .slice (some ⟨b, 0, none⟩) 1 1 ∧ Bk W b 39 #[.slice A n c] ∧ Sl encP (fun g => N ≤ g) W (.slice A n c) yr, fun ⟨A, n, c, b, e, h1, h2⟩ hg => ⟨A, n, c, b, e, h1.grown hg (by simp), h2.kept hg⟩⟩
/-- A list of pairs, made since N. -/
def slP (N : Nat) (yr : List (Int × Int)) : Pv := ⟨fun v W => Sl encP (fun g => N ≤ g) W v yr, fun h hg => h.kept hg⟩
def slU (yr : List Int) : Pv := ⟨fun v W => Sl encU TT W v yr, fun h hg => h.kept hg⟩
theorem results_deal {fn : Func} {W : World} {B8 : Nat} {a b c : Value} (h : fn.results = #[.cell 8 33, .tmp 9]) (tmps : Array Value) (h8 : tmps.getD 8 undef = .pointer (some ⟨B8, 0, none⟩)) (h9 : tmps.getD 9 undef = .int .i64 0) (hb : Bk W B8 33 #[a, b, c]) : (results fn tmps).run Tryz.prog W = .ok (.tuple #[.agg #[a, b, c], .int .i64 0]) W := by
  have r1 := run_loadVar_row (P := Tryz.prog) W B8 33 33 #[a, b, c] (0, 0) _ hb Tryz.underlying33 rfl (by kernel_rfl)
  have h8' : tmps[8]?.getD undef = .pointer (some ⟨B8, 0, none⟩) := by simpa using h8
  have h9' : tmps[9]?.getD undef = .int .i64 0 := by simpa using h9
  simp [results, h, h8', h9', asAddr, r1]
end Go.Proofs.YthicondcjeipfaaGreatDoor
