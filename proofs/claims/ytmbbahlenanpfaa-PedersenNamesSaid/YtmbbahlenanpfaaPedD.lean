/- pedersen.pairs over lists of lists, and of lists of lists of lists; pairs itself; walked. -/
import Derived.Test.YtmbbahlenanpfaaPedC
namespace Go.Proofs.Ytmbbahlenanpfaa
open Go Go.RowKit Go.Shelf

attribute [local go_sem] Oper.semAt_some
def zipS {α : Type} (a b : List (List α)) : List (List α × List α) := (List.range (max a.length b.length)).map fun i => (a[i]?.getD [], b[i]?.getD [])
abbrev SS {α : Type} (E : Enc α) (X : Nat → Prop) (w₀ : World) (G : List α → Prop) := { x : (Value × List α) × (Value × List α) // (Sl E X w₀ x.1.1 x.1.2 ∧ G x.1.2) ∧ (Sl E X w₀ x.2.1 x.2.2 ∧ G x.2.2) }
def SS.lists {α : Type} {E : Enc α} {X : Nat → Prop} {w₀ : World} {G : List α → Prop} (x : SS E X w₀ G) : List α × List α := (x.1.1.2, x.1.2.2)
theorem getD_G {α : Type} {G : List α → Prop} (h0 : G []) {l : List (List α)} (h : ∀ c ∈ l, G c) (k : Nat) : G (l[k]?.getD []) := by
  by_cases hk : k < l.length
  · rw [List.getElem?_eq_getElem hk]
    exact h _ (List.getElem_mem hk)
  · rw [List.getElem?_eq_none (by omega)]
    exact h0
set_option maxHeartbeats 400000 in
theorem atS_any (v : Value) (l : List (List Int)) (i : Nat) (X : Nat → Prop) (w₀ : World) (h : Sl (encS encU) X w₀ v l) (hi : (i : Int) ≤ 9223372036854775807) :
    ∃ u, Sl encU X w₀ u (l[i]?.getD []) ∧ ∀ w, w₀.grownBy w none → Calls Try.prog 36 #[v, .int .i64 i] w fun e w' => e = .returned u ∧ w' = w := by
  have H := Lib.hid h
  obtain ⟨A, c, rfl, hc1, hc2⟩ := h.form
  have hi0 : (0 : Int) ≤ (i : Int) := by omega
  by_cases hl : i < l.length
  · obtain ⟨g, o, c', u, e, _, _, hcu, hsu⟩ := h.atS hl
    injection e with e1 e2 e3
    subst e1 e3
    refine ⟨u, by rw [show l[i]?.getD [] = l[i] by rw [List.getElem?_eq_getElem hl]; rfl]; exact hsu, fun w hw => ?_⟩
    have hcw : w.cell? ⟨g, o + i, none⟩ = some u := by
      obtain ⟨g', o', c'', u', e', hg', _, hcu', _⟩ := h.atS hl
      injection e' with e1 e2 e3
      injection e1 with e1
      injection e1 with e1 e4
      subst e1 e4
      rw [World.cell?_of_block (w := w₀) (hw.block _ hg' (by simp))]
      exact hcu
    obtain ⟨A1, c1, rfl, _, _⟩ := hsu.form
    have hli : (i : Int) < (l.length : Int) := by omega
    clear h e2 hsu hcu
    go_enter Try.func36, Try.ntmps36
    go_wp2
    go_ret
    exact ⟨rfl, rfl⟩
  · have hli : ¬ (i : Int) < (l.length : Int) := by omega
    have hli2 : (l.length : Int) ≤ (i : Int) := by omega
    refine ⟨.slice none 0 0, by rw [show l[i]?.getD [] = [] by rw [List.getElem?_eq_none (by omega)]; rfl]; exact Sl.nil _ _ _, fun w hw => ?_⟩
    clear h
    go_enter Try.func36, Try.ntmps36
    go_wp2
    go_ret
    exact ⟨rfl, rfl⟩
set_option maxRecDepth 100000 in
set_option maxHeartbeats 2000000 in
theorem pairsS_in (n : Nat) (hn : 1 ≤ n) (l Ba Bb : Nat) (va vb : Value) (a b : List (List Int)) (X : Nat → Prop) (w₀ : World) (G : List Int → Prop) (hG0 : G []) (hGa : ∀ c ∈ a, G c) (hGb : ∀ c ∈ b, G c) (J Jx : List (SS encU X w₀ G) → World → Prop)
    (hY : ∀ pre x W, J pre W → pre.length < (zipS a b).length → YieldAt Fence.wide (n - 1) Try.prog l #[x.1.1.1, x.1.2.1] W fun e W' =>
      (e = .returned (.bool true) ∧ J (pre ++ [x]) W' ∧ KpAB w₀.heap.size Ba Bb W W') ∨ (e = .returned (.bool false) ∧ Jx (pre ++ [x]) W'))
    (W : World) (hJ : AbidesFrom W.heap.size J) (hW0 : Below w₀.heap.size w₀ W) (hBa : Boxed W Ba 28 va) (hBb : Boxed W Bb 28 vb) (hA : Sl (encS encU) X w₀ va a) (hB : Sl (encS encU) X w₀ vb b) (h0 : J [] W) :
    CallsIn Fence.wide n Try.prog 35 #[.func (.yield l) #[] #[], .pointer (some ⟨Ba, 0, none⟩), .pointer (some ⟨Bb, 0, none⟩)] W fun e W' => (∃ v, e = .returned v) ∧
      ((∃ ys, ys.map SS.lists = zipS a b ∧ J ys W') ∨ (∃ pre, True ∧ Jx pre W')) := by
  refine callsIn_of_wp Try.func35 rfl trivial ?_ rfl
  simp only [Try.ntmps35, List.size_toArray, List.length_cons, List.length_nil, Nat.reduceAdd, Nat.reduceSub, Array.replicate_succ, Array.replicate_zero, List.push_toArray, List.append_toArray, List.nil_append, List.cons_append]
  obtain ⟨A1, c1, rfl, _, _⟩ := hA.form
  obtain ⟨A2, c2, rfl, _, _⟩ := hB.form
  have ca := hBa.cell
  have cb := hBb.cell
  have HA := Lib.hid hA
  have HB := Lib.hid hB
  have HL : Hid ((zipS a b).length = max a.length b.length) := Lib.hid (by simp [zipS])
  have HAT : Hid (∀ k (h : k < (zipS a b).length), (zipS a b)[k] = (a[k]?.getD [], b[k]?.getD [])) := Lib.hid (fun k h => by simp [zipS])
  have hba : a.length ≤ 9223372036854775807 := hA.bound
  have hbb : b.length ≤ 9223372036854775807 := hB.bound
  have HBA := Lib.hid hBa
  have HBB := Lib.hid hBb
  have HH0 := Lib.hid h0
  clear hA hB hBa hBb h0
  by_cases hle : a.length < b.length
  · have HN : Hid (b.length = (zipS a b).length) := Lib.hid (by rw [HL.out]; omega)
    gi_wp2
    gi_loopw [10] (fun s10 wr => ∃ (k : Nat) (pre : List (SS encU X w₀ G)), k ≤ b.length ∧ s10 = .int .i64 k ∧ Hid (pre.map SS.lists = (zipS a b).take k ∧ J pre wr ∧ KpAB w₀.heap.size Ba Bb W wr)) (fun s10 _ => b.length - (intOf s10).toNat)
    case atStart => exact ⟨0, [], by omega, rfl, Lib.hid ⟨rfl, HH0.out, KpAB.refl _ _ _ _⟩⟩
    case round =>
      obtain ⟨k, pre, hk, rfl, HX⟩ := hrel
      by_cases hlt : k < b.length
      · have hki : (k : Int) < (b.length : Int) := by omega
        have hkz : k < (zipS a b).length := by rw [← HN.out]; exact hlt
        have hkb : (k : Int) ≤ 9223372036854775807 := by omega
        have hpl : pre.length = k := by have := congrArg List.length HX.out.1; simpa [Nat.min_eq_left (Nat.le_of_lt hkz)] using this
        have hca : wr.cell? ⟨Ba, 0, none⟩ = some (.slice A1 a.length c1) := (World.cell?_of_block (w := W) HX.out.2.2.2.1).trans HBA.out.cell
        have hcb : wr.cell? ⟨Bb, 0, none⟩ = some (.slice A2 b.length c2) := (World.cell?_of_block (w := W) HX.out.2.2.2.2).trans HBB.out.cell
        have hJk : J pre wr.drew := hJ _ wr wr.drew none HX.out.2.1 (grownBy_drewN (World.grownBy.refl wr none) 1) (by simp)
        have HGW : Hid (w₀.grownBy wr none) := Lib.hid (grown_of_below (hW0.trans HX.out.2.2.1))
        obtain ⟨va', HUA, HC1'⟩ := atS_any _ a k X w₀ HA.out hkb
        obtain ⟨vb', HUB, HC2'⟩ := atS_any _ b k X w₀ HB.out hkb
        obtain ⟨xa, hxa⟩ : ∃ x, x = a[k]?.getD [] := ⟨_, rfl⟩
        obtain ⟨xb, hxb⟩ : ∃ x, x = b[k]?.getD [] := ⟨_, rfl⟩
        rw [← hxa] at HUA
        rw [← hxb] at HUB
        have HGA : G xa := by rw [hxa]; exact getD_G hG0 hGa k
        have HGB : G xb := by rw [hxb]; exact getD_G hG0 hGb k
        obtain ⟨fn, tmps, assign, body, hy, hR⟩ := hY _ (⟨((va', xa), (vb', xb)), ⟨HUA, HGA⟩, ⟨HUB, HGB⟩⟩ : SS encU X w₀ G) wr.drew hJk (by rw [hpl]; exact hkz)
        dsimp only at hy
        have HR := Lib.hid (hR.mono (R' := fun e W' => ∃ bb : Bool, e = .returned (.bool bb) ∧ Hid ((bb = true ∧ J (pre ++ [(⟨((va', xa), (vb', xb)), ⟨HUA, HGA⟩, ⟨HUB, HGB⟩⟩ : SS encU X w₀ G)]) W' ∧ KpAB w₀.heap.size Ba Bb wr.drew W') ∨ (bb = false ∧ Jx (pre ++ [(⟨((va', xa), (vb', xb)), ⟨HUA, HGA⟩, ⟨HUB, HGB⟩⟩ : SS encU X w₀ G)]) W'))) (fun e W' h => by
          rcases h with ⟨h1, h2, h3⟩ | ⟨h1, h2⟩
          · exact ⟨true, h1, Lib.hid (.inl ⟨rfl, h2, h3⟩)⟩
          · exact ⟨false, h1, Lib.hid (.inr ⟨rfl, h2⟩)⟩))
        have HC1 := Lib.hid HC1'
        have HC2 := Lib.hid HC2'
        have HPN : Hid ((pre ++ [(⟨((va', xa), (vb', xb)), ⟨HUA, HGA⟩, ⟨HUB, HGB⟩⟩ : SS encU X w₀ G)]).map SS.lists = (zipS a b).take (k + 1)) := Lib.hid (by
          rw [List.map_append, HX.out.1, List.take_succ_eq_append_getElem hkz, HAT.out k hkz, ← hxa, ← hxb]
          rfl)
        have HGD : Hid (w₀.grownBy wr.drew none) := Lib.hid (grownBy_drewN HGW.out 1)
        clear hR hJk ca cb hxa hxb HC1' HC2'
        gi_wp2
        gi_region_with (first
          | (refine ⟨trivial, ?_⟩; gi_at_call 36; (with_reducible refine (callsIn_wide.2 (HC1.out _ HGD.out)).mono ?_); rintro e w' ⟨rfl, rfl⟩)
          | (refine ⟨trivial, ?_⟩; gi_at_call 36; (with_reducible refine (callsIn_wide.2 (HC2.out _ HGD.out)).mono ?_); rintro e w' ⟨rfl, rfl⟩)
          | ((with_reducible refine HR.out.mono ?_); rintro e W' ⟨bb, rfl, hout⟩))
        all_goals (cases bb with
          | true =>
            gi_wp2
            rcases hout.out with ⟨_, hJ2, hK2⟩ | ⟨h, _⟩
            · exact ⟨⟨k + 1, _, by omega, by go_num, Lib.hid ⟨HPN.out, hJ2, HX.out.2.2.trans ((KpAB.drew _ _ _ wr).trans hK2)⟩⟩, by simp [intOf]; omega⟩
            · cases h
          | false =>
            gi_wp2
            rcases hout.out with ⟨h, _⟩ | ⟨_, hJx2⟩
            · cases h
            · refine bodyPost_ret (results_none rfl _ _ _) rfl ?_
              exact ⟨⟨_, rfl⟩, .inr ⟨_, hJx2⟩⟩)
      · obtain rfl : k = b.length := by omega
        gi_wp2
        go_end0
        exact ⟨⟨_, rfl⟩, .inl ⟨pre, by rw [HX.out.1, HN.out, List.take_length], HX.out.2.1⟩⟩
  · have HN : Hid (a.length = (zipS a b).length) := Lib.hid (by rw [HL.out]; omega)
    gi_wp2
    gi_loopw [10] (fun s10 wr => ∃ (k : Nat) (pre : List (SS encU X w₀ G)), k ≤ a.length ∧ s10 = .int .i64 k ∧ Hid (pre.map SS.lists = (zipS a b).take k ∧ J pre wr ∧ KpAB w₀.heap.size Ba Bb W wr)) (fun s10 _ => a.length - (intOf s10).toNat)
    case atStart => exact ⟨0, [], by omega, rfl, Lib.hid ⟨rfl, HH0.out, KpAB.refl _ _ _ _⟩⟩
    case round =>
      obtain ⟨k, pre, hk, rfl, HX⟩ := hrel
      by_cases hlt : k < a.length
      · have hki : (k : Int) < (a.length : Int) := by omega
        have hkz : k < (zipS a b).length := by rw [← HN.out]; exact hlt
        have hkb : (k : Int) ≤ 9223372036854775807 := by omega
        have hpl : pre.length = k := by have := congrArg List.length HX.out.1; simpa [Nat.min_eq_left (Nat.le_of_lt hkz)] using this
        have hca : wr.cell? ⟨Ba, 0, none⟩ = some (.slice A1 a.length c1) := (World.cell?_of_block (w := W) HX.out.2.2.2.1).trans HBA.out.cell
        have hcb : wr.cell? ⟨Bb, 0, none⟩ = some (.slice A2 b.length c2) := (World.cell?_of_block (w := W) HX.out.2.2.2.2).trans HBB.out.cell
        have hJk : J pre wr.drew := hJ _ wr wr.drew none HX.out.2.1 (grownBy_drewN (World.grownBy.refl wr none) 1) (by simp)
        have HGW : Hid (w₀.grownBy wr none) := Lib.hid (grown_of_below (hW0.trans HX.out.2.2.1))
        obtain ⟨va', HUA, HC1'⟩ := atS_any _ a k X w₀ HA.out hkb
        obtain ⟨vb', HUB, HC2'⟩ := atS_any _ b k X w₀ HB.out hkb
        obtain ⟨xa, hxa⟩ : ∃ x, x = a[k]?.getD [] := ⟨_, rfl⟩
        obtain ⟨xb, hxb⟩ : ∃ x, x = b[k]?.getD [] := ⟨_, rfl⟩
        rw [← hxa] at HUA
        rw [← hxb] at HUB
        have HGA : G xa := by rw [hxa]; exact getD_G hG0 hGa k
        have HGB : G xb := by rw [hxb]; exact getD_G hG0 hGb k
        obtain ⟨fn, tmps, assign, body, hy, hR⟩ := hY _ (⟨((va', xa), (vb', xb)), ⟨HUA, HGA⟩, ⟨HUB, HGB⟩⟩ : SS encU X w₀ G) wr.drew hJk (by rw [hpl]; exact hkz)
        dsimp only at hy
        have HR := Lib.hid (hR.mono (R' := fun e W' => ∃ bb : Bool, e = .returned (.bool bb) ∧ Hid ((bb = true ∧ J (pre ++ [(⟨((va', xa), (vb', xb)), ⟨HUA, HGA⟩, ⟨HUB, HGB⟩⟩ : SS encU X w₀ G)]) W' ∧ KpAB w₀.heap.size Ba Bb wr.drew W') ∨ (bb = false ∧ Jx (pre ++ [(⟨((va', xa), (vb', xb)), ⟨HUA, HGA⟩, ⟨HUB, HGB⟩⟩ : SS encU X w₀ G)]) W'))) (fun e W' h => by
          rcases h with ⟨h1, h2, h3⟩ | ⟨h1, h2⟩
          · exact ⟨true, h1, Lib.hid (.inl ⟨rfl, h2, h3⟩)⟩
          · exact ⟨false, h1, Lib.hid (.inr ⟨rfl, h2⟩)⟩))
        have HC1 := Lib.hid HC1'
        have HC2 := Lib.hid HC2'
        have HPN : Hid ((pre ++ [(⟨((va', xa), (vb', xb)), ⟨HUA, HGA⟩, ⟨HUB, HGB⟩⟩ : SS encU X w₀ G)]).map SS.lists = (zipS a b).take (k + 1)) := Lib.hid (by
          rw [List.map_append, HX.out.1, List.take_succ_eq_append_getElem hkz, HAT.out k hkz, ← hxa, ← hxb]
          rfl)
        have HGD : Hid (w₀.grownBy wr.drew none) := Lib.hid (grownBy_drewN HGW.out 1)
        clear hR hJk ca cb hxa hxb HC1' HC2'
        gi_wp2
        gi_region_with (first
          | (refine ⟨trivial, ?_⟩; gi_at_call 36; (with_reducible refine (callsIn_wide.2 (HC1.out _ HGD.out)).mono ?_); rintro e w' ⟨rfl, rfl⟩)
          | (refine ⟨trivial, ?_⟩; gi_at_call 36; (with_reducible refine (callsIn_wide.2 (HC2.out _ HGD.out)).mono ?_); rintro e w' ⟨rfl, rfl⟩)
          | ((with_reducible refine HR.out.mono ?_); rintro e W' ⟨bb, rfl, hout⟩))
        all_goals (cases bb with
          | true =>
            gi_wp2
            rcases hout.out with ⟨_, hJ2, hK2⟩ | ⟨h, _⟩
            · exact ⟨⟨k + 1, _, by omega, by go_num, Lib.hid ⟨HPN.out, hJ2, HX.out.2.2.trans ((KpAB.drew _ _ _ wr).trans hK2)⟩⟩, by simp [intOf]; omega⟩
            · cases h
          | false =>
            gi_wp2
            rcases hout.out with ⟨h, _⟩ | ⟨_, hJx2⟩
            · cases h
            · refine bodyPost_ret (results_none rfl _ _ _) rfl ?_
              exact ⟨⟨_, rfl⟩, .inr ⟨_, hJx2⟩⟩)
      · obtain rfl : k = a.length := by omega
        gi_wp2
        go_end0
        exact ⟨⟨_, rfl⟩, .inl ⟨pre, by rw [HX.out.1, HN.out, List.take_length], HX.out.2.1⟩⟩
set_option maxHeartbeats 400000 in
theorem atM_any (v : Value) (l : List (List (List Int))) (i : Nat) (X : Nat → Prop) (w₀ : World) (h : Sl (encS (encS encU)) X w₀ v l) (hi : (i : Int) ≤ 9223372036854775807) :
    ∃ u, Sl (encS encU) X w₀ u (l[i]?.getD []) ∧ ∀ w, w₀.grownBy w none → Calls Try.prog 42 #[v, .int .i64 i] w fun e w' => e = .returned u ∧ w' = w := by
  have H := Lib.hid h
  obtain ⟨A, c, rfl, hc1, hc2⟩ := h.form
  have hi0 : (0 : Int) ≤ (i : Int) := by omega
  by_cases hl : i < l.length
  · obtain ⟨g, o, c', u, e, _, _, hcu, hsu⟩ := h.atS hl
    injection e with e1 e2 e3
    subst e1 e3
    refine ⟨u, by rw [show l[i]?.getD [] = l[i] by rw [List.getElem?_eq_getElem hl]; rfl]; exact hsu, fun w hw => ?_⟩
    have hcw : w.cell? ⟨g, o + i, none⟩ = some u := by
      obtain ⟨g', o', c'', u', e', hg', _, hcu', _⟩ := h.atS hl
      injection e' with e1 e2 e3
      injection e1 with e1
      injection e1 with e1 e4
      subst e1 e4
      rw [World.cell?_of_block (w := w₀) (hw.block _ hg' (by simp))]
      exact hcu
    obtain ⟨A1, c1, rfl, _, _⟩ := hsu.form
    have hli : (i : Int) < (l.length : Int) := by omega
    clear h e2 hsu hcu
    go_enter Try.func42, Try.ntmps42
    go_wp2
    go_ret
    exact ⟨rfl, rfl⟩
  · have hli : ¬ (i : Int) < (l.length : Int) := by omega
    have hli2 : (l.length : Int) ≤ (i : Int) := by omega
    refine ⟨.slice none 0 0, by rw [show l[i]?.getD [] = [] by rw [List.getElem?_eq_none (by omega)]; rfl]; exact Sl.nil _ _ _, fun w hw => ?_⟩
    clear h
    go_enter Try.func42, Try.ntmps42
    go_wp2
    go_ret
    exact ⟨rfl, rfl⟩
set_option maxRecDepth 100000 in
set_option maxHeartbeats 2000000 in
theorem pairsM_in (n : Nat) (hn : 1 ≤ n) (l Ba Bb : Nat) (va vb : Value) (a b : List (List (List Int))) (X : Nat → Prop) (w₀ : World) (G : List (List Int) → Prop) (hG0 : G []) (hGa : ∀ c ∈ a, G c) (hGb : ∀ c ∈ b, G c) (J Jx : List (SS (encS encU) X w₀ G) → World → Prop)
    (hY : ∀ pre x W, J pre W → pre.length < (zipS a b).length → YieldAt Fence.wide (n - 1) Try.prog l #[x.1.1.1, x.1.2.1] W fun e W' =>
      (e = .returned (.bool true) ∧ J (pre ++ [x]) W' ∧ KpAB w₀.heap.size Ba Bb W W') ∨ (e = .returned (.bool false) ∧ Jx (pre ++ [x]) W'))
    (W : World) (hJ : AbidesFrom W.heap.size J) (hW0 : Below w₀.heap.size w₀ W) (hBa : Boxed W Ba 29 va) (hBb : Boxed W Bb 29 vb) (hA : Sl (encS (encS encU)) X w₀ va a) (hB : Sl (encS (encS encU)) X w₀ vb b) (h0 : J [] W) :
    CallsIn Fence.wide n Try.prog 41 #[.func (.yield l) #[] #[], .pointer (some ⟨Ba, 0, none⟩), .pointer (some ⟨Bb, 0, none⟩)] W fun e W' => (∃ v, e = .returned v) ∧
      ((∃ ys, ys.map SS.lists = zipS a b ∧ J ys W') ∨ (∃ pre, True ∧ Jx pre W')) := by
  refine callsIn_of_wp Try.func41 rfl trivial ?_ rfl
  simp only [Try.ntmps41, List.size_toArray, List.length_cons, List.length_nil, Nat.reduceAdd, Nat.reduceSub, Array.replicate_succ, Array.replicate_zero, List.push_toArray, List.append_toArray, List.nil_append, List.cons_append]
  obtain ⟨A1, c1, rfl, _, _⟩ := hA.form
  obtain ⟨A2, c2, rfl, _, _⟩ := hB.form
  have ca := hBa.cell
  have cb := hBb.cell
  have HA := Lib.hid hA
  have HB := Lib.hid hB
  have HL : Hid ((zipS a b).length = max a.length b.length) := Lib.hid (by simp [zipS])
  have HAT : Hid (∀ k (h : k < (zipS a b).length), (zipS a b)[k] = (a[k]?.getD [], b[k]?.getD [])) := Lib.hid (fun k h => by simp [zipS])
  have hba : a.length ≤ 9223372036854775807 := hA.bound
  have hbb : b.length ≤ 9223372036854775807 := hB.bound
  have HBA := Lib.hid hBa
  have HBB := Lib.hid hBb
  have HH0 := Lib.hid h0
  clear hA hB hBa hBb h0
  by_cases hle : a.length < b.length
  · have HN : Hid (b.length = (zipS a b).length) := Lib.hid (by rw [HL.out]; omega)
    gi_wp2
    gi_loopw [10] (fun s10 wr => ∃ (k : Nat) (pre : List (SS (encS encU) X w₀ G)), k ≤ b.length ∧ s10 = .int .i64 k ∧ Hid (pre.map SS.lists = (zipS a b).take k ∧ J pre wr ∧ KpAB w₀.heap.size Ba Bb W wr)) (fun s10 _ => b.length - (intOf s10).toNat)
    case atStart => exact ⟨0, [], by omega, rfl, Lib.hid ⟨rfl, HH0.out, KpAB.refl _ _ _ _⟩⟩
    case round =>
      obtain ⟨k, pre, hk, rfl, HX⟩ := hrel
      by_cases hlt : k < b.length
      · have hki : (k : Int) < (b.length : Int) := by omega
        have hkz : k < (zipS a b).length := by rw [← HN.out]; exact hlt
        have hkb : (k : Int) ≤ 9223372036854775807 := by omega
        have hpl : pre.length = k := by have := congrArg List.length HX.out.1; simpa [Nat.min_eq_left (Nat.le_of_lt hkz)] using this
        have hca : wr.cell? ⟨Ba, 0, none⟩ = some (.slice A1 a.length c1) := (World.cell?_of_block (w := W) HX.out.2.2.2.1).trans HBA.out.cell
        have hcb : wr.cell? ⟨Bb, 0, none⟩ = some (.slice A2 b.length c2) := (World.cell?_of_block (w := W) HX.out.2.2.2.2).trans HBB.out.cell
        have hJk : J pre wr.drew := hJ _ wr wr.drew none HX.out.2.1 (grownBy_drewN (World.grownBy.refl wr none) 1) (by simp)
        have HGW : Hid (w₀.grownBy wr none) := Lib.hid (grown_of_below (hW0.trans HX.out.2.2.1))
        obtain ⟨va', HUA, HC1'⟩ := atM_any _ a k X w₀ HA.out hkb
        obtain ⟨vb', HUB, HC2'⟩ := atM_any _ b k X w₀ HB.out hkb
        obtain ⟨xa, hxa⟩ : ∃ x, x = a[k]?.getD [] := ⟨_, rfl⟩
        obtain ⟨xb, hxb⟩ : ∃ x, x = b[k]?.getD [] := ⟨_, rfl⟩
        rw [← hxa] at HUA
        rw [← hxb] at HUB
        have HGA : G xa := by rw [hxa]; exact getD_G hG0 hGa k
        have HGB : G xb := by rw [hxb]; exact getD_G hG0 hGb k
        obtain ⟨fn, tmps, assign, body, hy, hR⟩ := hY _ (⟨((va', xa), (vb', xb)), ⟨HUA, HGA⟩, ⟨HUB, HGB⟩⟩ : SS (encS encU) X w₀ G) wr.drew hJk (by rw [hpl]; exact hkz)
        dsimp only at hy
        have HR := Lib.hid (hR.mono (R' := fun e W' => ∃ bb : Bool, e = .returned (.bool bb) ∧ Hid ((bb = true ∧ J (pre ++ [(⟨((va', xa), (vb', xb)), ⟨HUA, HGA⟩, ⟨HUB, HGB⟩⟩ : SS (encS encU) X w₀ G)]) W' ∧ KpAB w₀.heap.size Ba Bb wr.drew W') ∨ (bb = false ∧ Jx (pre ++ [(⟨((va', xa), (vb', xb)), ⟨HUA, HGA⟩, ⟨HUB, HGB⟩⟩ : SS (encS encU) X w₀ G)]) W'))) (fun e W' h => by
          rcases h with ⟨h1, h2, h3⟩ | ⟨h1, h2⟩
          · exact ⟨true, h1, Lib.hid (.inl ⟨rfl, h2, h3⟩)⟩
          · exact ⟨false, h1, Lib.hid (.inr ⟨rfl, h2⟩)⟩))
        have HC1 := Lib.hid HC1'
        have HC2 := Lib.hid HC2'
        have HPN : Hid ((pre ++ [(⟨((va', xa), (vb', xb)), ⟨HUA, HGA⟩, ⟨HUB, HGB⟩⟩ : SS (encS encU) X w₀ G)]).map SS.lists = (zipS a b).take (k + 1)) := Lib.hid (by
          rw [List.map_append, HX.out.1, List.take_succ_eq_append_getElem hkz, HAT.out k hkz, ← hxa, ← hxb]
          rfl)
        have HGD : Hid (w₀.grownBy wr.drew none) := Lib.hid (grownBy_drewN HGW.out 1)
        clear hR hJk ca cb hxa hxb HC1' HC2'
        gi_wp2
        gi_region_with (first
          | (refine ⟨trivial, ?_⟩; gi_at_call 42; (with_reducible refine (callsIn_wide.2 (HC1.out _ HGD.out)).mono ?_); rintro e w' ⟨rfl, rfl⟩)
          | (refine ⟨trivial, ?_⟩; gi_at_call 42; (with_reducible refine (callsIn_wide.2 (HC2.out _ HGD.out)).mono ?_); rintro e w' ⟨rfl, rfl⟩)
          | ((with_reducible refine HR.out.mono ?_); rintro e W' ⟨bb, rfl, hout⟩))
        all_goals (cases bb with
          | true =>
            gi_wp2
            rcases hout.out with ⟨_, hJ2, hK2⟩ | ⟨h, _⟩
            · exact ⟨⟨k + 1, _, by omega, by go_num, Lib.hid ⟨HPN.out, hJ2, HX.out.2.2.trans ((KpAB.drew _ _ _ wr).trans hK2)⟩⟩, by simp [intOf]; omega⟩
            · cases h
          | false =>
            gi_wp2
            rcases hout.out with ⟨h, _⟩ | ⟨_, hJx2⟩
            · cases h
            · refine bodyPost_ret (results_none rfl _ _ _) rfl ?_
              exact ⟨⟨_, rfl⟩, .inr ⟨_, hJx2⟩⟩)
      · obtain rfl : k = b.length := by omega
        gi_wp2
        go_end0
        exact ⟨⟨_, rfl⟩, .inl ⟨pre, by rw [HX.out.1, HN.out, List.take_length], HX.out.2.1⟩⟩
  · have HN : Hid (a.length = (zipS a b).length) := Lib.hid (by rw [HL.out]; omega)
    gi_wp2
    gi_loopw [10] (fun s10 wr => ∃ (k : Nat) (pre : List (SS (encS encU) X w₀ G)), k ≤ a.length ∧ s10 = .int .i64 k ∧ Hid (pre.map SS.lists = (zipS a b).take k ∧ J pre wr ∧ KpAB w₀.heap.size Ba Bb W wr)) (fun s10 _ => a.length - (intOf s10).toNat)
    case atStart => exact ⟨0, [], by omega, rfl, Lib.hid ⟨rfl, HH0.out, KpAB.refl _ _ _ _⟩⟩
    case round =>
      obtain ⟨k, pre, hk, rfl, HX⟩ := hrel
      by_cases hlt : k < a.length
      · have hki : (k : Int) < (a.length : Int) := by omega
        have hkz : k < (zipS a b).length := by rw [← HN.out]; exact hlt
        have hkb : (k : Int) ≤ 9223372036854775807 := by omega
        have hpl : pre.length = k := by have := congrArg List.length HX.out.1; simpa [Nat.min_eq_left (Nat.le_of_lt hkz)] using this
        have hca : wr.cell? ⟨Ba, 0, none⟩ = some (.slice A1 a.length c1) := (World.cell?_of_block (w := W) HX.out.2.2.2.1).trans HBA.out.cell
        have hcb : wr.cell? ⟨Bb, 0, none⟩ = some (.slice A2 b.length c2) := (World.cell?_of_block (w := W) HX.out.2.2.2.2).trans HBB.out.cell
        have hJk : J pre wr.drew := hJ _ wr wr.drew none HX.out.2.1 (grownBy_drewN (World.grownBy.refl wr none) 1) (by simp)
        have HGW : Hid (w₀.grownBy wr none) := Lib.hid (grown_of_below (hW0.trans HX.out.2.2.1))
        obtain ⟨va', HUA, HC1'⟩ := atM_any _ a k X w₀ HA.out hkb
        obtain ⟨vb', HUB, HC2'⟩ := atM_any _ b k X w₀ HB.out hkb
        obtain ⟨xa, hxa⟩ : ∃ x, x = a[k]?.getD [] := ⟨_, rfl⟩
        obtain ⟨xb, hxb⟩ : ∃ x, x = b[k]?.getD [] := ⟨_, rfl⟩
        rw [← hxa] at HUA
        rw [← hxb] at HUB
        have HGA : G xa := by rw [hxa]; exact getD_G hG0 hGa k
        have HGB : G xb := by rw [hxb]; exact getD_G hG0 hGb k
        obtain ⟨fn, tmps, assign, body, hy, hR⟩ := hY _ (⟨((va', xa), (vb', xb)), ⟨HUA, HGA⟩, ⟨HUB, HGB⟩⟩ : SS (encS encU) X w₀ G) wr.drew hJk (by rw [hpl]; exact hkz)
        dsimp only at hy
        have HR := Lib.hid (hR.mono (R' := fun e W' => ∃ bb : Bool, e = .returned (.bool bb) ∧ Hid ((bb = true ∧ J (pre ++ [(⟨((va', xa), (vb', xb)), ⟨HUA, HGA⟩, ⟨HUB, HGB⟩⟩ : SS (encS encU) X w₀ G)]) W' ∧ KpAB w₀.heap.size Ba Bb wr.drew W') ∨ (bb = false ∧ Jx (pre ++ [(⟨((va', xa), (vb', xb)), ⟨HUA, HGA⟩, ⟨HUB, HGB⟩⟩ : SS (encS encU) X w₀ G)]) W'))) (fun e W' h => by
          rcases h with ⟨h1, h2, h3⟩ | ⟨h1, h2⟩
          · exact ⟨true, h1, Lib.hid (.inl ⟨rfl, h2, h3⟩)⟩
          · exact ⟨false, h1, Lib.hid (.inr ⟨rfl, h2⟩)⟩))
        have HC1 := Lib.hid HC1'
        have HC2 := Lib.hid HC2'
        have HPN : Hid ((pre ++ [(⟨((va', xa), (vb', xb)), ⟨HUA, HGA⟩, ⟨HUB, HGB⟩⟩ : SS (encS encU) X w₀ G)]).map SS.lists = (zipS a b).take (k + 1)) := Lib.hid (by
          rw [List.map_append, HX.out.1, List.take_succ_eq_append_getElem hkz, HAT.out k hkz, ← hxa, ← hxb]
          rfl)
        have HGD : Hid (w₀.grownBy wr.drew none) := Lib.hid (grownBy_drewN HGW.out 1)
        clear hR hJk ca cb hxa hxb HC1' HC2'
        gi_wp2
        gi_region_with (first
          | (refine ⟨trivial, ?_⟩; gi_at_call 42; (with_reducible refine (callsIn_wide.2 (HC1.out _ HGD.out)).mono ?_); rintro e w' ⟨rfl, rfl⟩)
          | (refine ⟨trivial, ?_⟩; gi_at_call 42; (with_reducible refine (callsIn_wide.2 (HC2.out _ HGD.out)).mono ?_); rintro e w' ⟨rfl, rfl⟩)
          | ((with_reducible refine HR.out.mono ?_); rintro e W' ⟨bb, rfl, hout⟩))
        all_goals (cases bb with
          | true =>
            gi_wp2
            rcases hout.out with ⟨_, hJ2, hK2⟩ | ⟨h, _⟩
            · exact ⟨⟨k + 1, _, by omega, by go_num, Lib.hid ⟨HPN.out, hJ2, HX.out.2.2.trans ((KpAB.drew _ _ _ wr).trans hK2)⟩⟩, by simp [intOf]; omega⟩
            · cases h
          | false =>
            gi_wp2
            rcases hout.out with ⟨h, _⟩ | ⟨_, hJx2⟩
            · cases h
            · refine bodyPost_ret (results_none rfl _ _ _) rfl ?_
              exact ⟨⟨_, rfl⟩, .inr ⟨_, hJx2⟩⟩)
      · obtain rfl : k = a.length := by omega
        gi_wp2
        go_end0
        exact ⟨⟨_, rfl⟩, .inl ⟨pre, by rw [HX.out.1, HN.out, List.take_length], HX.out.2.1⟩⟩
end Go.Proofs.Ytmbbahlenanpfaa
