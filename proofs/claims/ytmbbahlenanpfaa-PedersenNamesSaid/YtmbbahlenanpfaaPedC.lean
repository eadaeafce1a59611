/- pedersen.pairs, an iterator over two lists, walked. -/
import Derived.RangeFuncNested
import Derived.RangeFuncBound
import Derived.RangeFuncCalls
import Derived.RangeFuncLeaves
import Derived.Shelf.Abstract
import Derived.Shelf.RegionOpen
import Derived.WalkKit
import Derived.OwnWalkIn
import Derived.TacticsInMore
import Derived.LoopNIn
import Derived.LoopIn
import Derived.Stop.RegionWithIn
import Derived.Test.YtmbbahlenanpfaaEncW
import Derived.Test.YtmbbahlenanpfaaRound
namespace Go.Proofs.Ytmbbahlenanpfaa
open Go Go.RowKit Go.Shelf

attribute [local go_sem] Oper.semAt_some
set_option maxHeartbeats 400000 in
theorem atU_any (v : Value) (l : List Int) (i : Nat) (X : Nat → Prop) (w : World) (h : Sl encU X w v l) (hi : (i : Int) ≤ 9223372036854775807) :
    Calls Try.prog 38 #[v, .int .i64 i] w fun e w' => e = .returned (.int .u64 (l[i]?.getD 0)) ∧ w' = w := by
  obtain ⟨A, c, rfl, hc1, hc2⟩ := h.form
  have hi0 : (0 : Int) ≤ (i : Int) := by omega
  by_cases hl : i < l.length
  · obtain ⟨g, o, c', e, _, _, hcu, _⟩ := h.atU hl
    injection e with e1 e2 e3
    subst e1 e3
    have hli : (i : Int) < (l.length : Int) := by omega
    rw [show l[i]?.getD 0 = l[i] by rw [List.getElem?_eq_getElem hl]; rfl]
    clear h e2
    go_enter Try.func38, Try.ntmps38
    go_wp2
    go_ret
    exact ⟨rfl, rfl⟩
  · have hli : ¬ (i : Int) < (l.length : Int) := by omega
    have hli2 : (l.length : Int) ≤ (i : Int) := by omega
    rw [show l[i]?.getD 0 = 0 by rw [List.getElem?_eq_none (by omega)]; rfl]
    clear h
    go_enter Try.func38, Try.ntmps38
    go_wp2
    go_ret
    exact ⟨rfl, rfl⟩
/-- What two lists give, place by place. -/
def zipU (a b : List Int) : List (Int × Int) := (List.range (max a.length b.length)).map fun i => (a[i]?.getD 0, b[i]?.getD 0)
abbrev UU := { x : Int × Int // U64 x.1 ∧ U64 x.2 }
/-- What a round of the iterator keeps: what lay below n₀, and the two boxes. -/
def KpAB (n₀ Ba Bb : Nat) (A B : World) : Prop := Below n₀ A B ∧ B.heap[Ba]? = A.heap[Ba]? ∧ B.heap[Bb]? = A.heap[Bb]?
theorem KpAB.refl (n₀ Ba Bb : Nat) (A : World) : KpAB n₀ Ba Bb A A := ⟨Below.refl _ _, rfl, rfl⟩
theorem KpAB.drew (n₀ Ba Bb : Nat) (A : World) : KpAB n₀ Ba Bb A A.drew := ⟨⟨rfl, rfl, rfl, Nat.le_refl _, fun _ _ => rfl⟩, rfl, rfl⟩
theorem KpAB.trans {n₀ Ba Bb : Nat} {A B C : World} (h : KpAB n₀ Ba Bb A B) (k : KpAB n₀ Ba Bb B C) : KpAB n₀ Ba Bb A C := ⟨h.1.trans k.1, k.2.1.trans h.2.1, k.2.2.trans h.2.2⟩
theorem grown_of_below {w w' : World} (h : Below w.heap.size w w') : w.grownBy w' none := ⟨h.1, h.2, h.3, h.4, fun k hk _ => h.5 k hk⟩
theorem getD_U64 {X : Nat → Prop} {w : World} {v : Value} {l : List Int} (k : Nat) (h : Sl encU X w v l) : U64 (l[k]?.getD 0) := by
  by_cases hk : k < l.length
  · obtain ⟨_, _, _, _, _, _, _, u⟩ := h.atU hk
    rw [List.getElem?_eq_getElem hk]
    exact u
  · rw [List.getElem?_eq_none (by omega)]
    exact ⟨by decide, by decide⟩
set_option maxRecDepth 100000 in
set_option maxHeartbeats 2000000 in
theorem pairsU_in (n : Nat) (hn : 1 ≤ n) (l Ba Bb : Nat) (va vb : Value) (a b : List Int) (X : Nat → Prop) (J Jx : List UU → World → Prop) (w₀ : World)
    (hY : ∀ pre x W, J pre W → pre.length < (zipU a b).length → YieldAt Fence.wide (n - 1) Try.prog l #[.int .u64 x.1.1, .int .u64 x.1.2] W fun e W' =>
      (e = .returned (.bool true) ∧ J (pre ++ [x]) W' ∧ KpAB w₀.heap.size Ba Bb W W') ∨ (e = .returned (.bool false) ∧ Jx (pre ++ [x]) W'))
    (W : World) (hJ : AbidesFrom W.heap.size J) (hW0 : Below w₀.heap.size w₀ W) (hBa : Boxed W Ba 27 va) (hBb : Boxed W Bb 27 vb) (hA : Sl encU X w₀ va a) (hB : Sl encU X w₀ vb b) (h0 : J [] W) :
    CallsIn Fence.wide n Try.prog 37 #[.func (.yield l) #[] #[], .pointer (some ⟨Ba, 0, none⟩), .pointer (some ⟨Bb, 0, none⟩)] W fun e W' => (∃ v, e = .returned v) ∧
      ((∃ ys, ys.map Subtype.val = zipU a b ∧ J ys W') ∨ (∃ pre, True ∧ Jx pre W')) := by
  refine callsIn_of_wp Try.func37 rfl trivial ?_ rfl
  simp only [Try.ntmps37, List.size_toArray, List.length_cons, List.length_nil, Nat.reduceAdd, Nat.reduceSub, Array.replicate_succ, Array.replicate_zero, List.push_toArray, List.append_toArray, List.nil_append, List.cons_append]
  obtain ⟨A1, c1, rfl, _, _⟩ := hA.form
  obtain ⟨A2, c2, rfl, _, _⟩ := hB.form
  have ca := hBa.cell
  have cb := hBb.cell
  have HA := Lib.hid hA
  have HB := Lib.hid hB
  have HL : Hid ((zipU a b).length = max a.length b.length) := Lib.hid (by simp [zipU])
  have HAT : Hid (∀ k (h : k < (zipU a b).length), (zipU a b)[k] = (a[k]?.getD 0, b[k]?.getD 0)) := Lib.hid (fun k h => by simp [zipU])
  have hba : a.length ≤ 9223372036854775807 := hA.bound
  have hbb : b.length ≤ 9223372036854775807 := hB.bound
  have HBA := Lib.hid hBa
  have HBB := Lib.hid hBb
  have HH0 := Lib.hid h0
  clear hA hB hBa hBb h0
  by_cases hle : a.length < b.length
  · have HN : Hid (b.length = (zipU a b).length) := Lib.hid (by rw [HL.out]; omega)
    gi_wp2
    gi_loopw [10] (fun s10 wr => ∃ (k : Nat) (pre : List UU), k ≤ b.length ∧ s10 = .int .i64 k ∧ Hid (pre.map Subtype.val = (zipU a b).take k ∧ J pre wr ∧ KpAB w₀.heap.size Ba Bb W wr)) (fun s10 _ => b.length - (intOf s10).toNat)
    case atStart => exact ⟨0, [], by omega, rfl, Lib.hid ⟨rfl, HH0.out, KpAB.refl _ _ _ _⟩⟩
    case round =>
      obtain ⟨k, pre, hk, rfl, HX⟩ := hrel
      by_cases hlt : k < b.length
      · have hki : (k : Int) < (b.length : Int) := by omega
        have hkz : k < (zipU a b).length := by rw [← HN.out]; exact hlt
        have hkb : (k : Int) ≤ 9223372036854775807 := by omega
        have hpl : pre.length = k := by have := congrArg List.length HX.out.1; simpa [Nat.min_eq_left (Nat.le_of_lt hkz)] using this
        have hca : wr.cell? ⟨Ba, 0, none⟩ = some (.slice A1 a.length c1) := (World.cell?_of_block (w := W) HX.out.2.2.2.1).trans HBA.out.cell
        have hcb : wr.cell? ⟨Bb, 0, none⟩ = some (.slice A2 b.length c2) := (World.cell?_of_block (w := W) HX.out.2.2.2.2).trans HBB.out.cell
        have hJk : J pre wr.drew := hJ _ wr wr.drew none HX.out.2.1 (grownBy_drewN (World.grownBy.refl wr none) 1) (by simp)
        have HGW : Hid (w₀.grownBy wr none) := Lib.hid (grown_of_below (hW0.trans HX.out.2.2.1))
        have HSA : Hid (∀ w', wr.grownBy w' none → Sl encU X w' (.slice A1 a.length c1) a) := Lib.hid (fun w' hw => HA.out.kept (HGW.out.trans hw))
        have HSB : Hid (∀ w', wr.grownBy w' none → Sl encU X w' (.slice A2 b.length c2) b) := Lib.hid (fun w' hw => HB.out.kept (HGW.out.trans hw))
        obtain ⟨xa, hxa⟩ : ∃ x, x = a[k]?.getD 0 := ⟨_, rfl⟩
        obtain ⟨xb, hxb⟩ : ∃ x, x = b[k]?.getD 0 := ⟨_, rfl⟩
        have HUA : U64 xa := by rw [hxa]; exact getD_U64 k (HSA.out wr (World.grownBy.refl _ _))
        have HUB : U64 xb := by rw [hxb]; exact getD_U64 k (HSB.out wr (World.grownBy.refl _ _))
        obtain ⟨fn, tmps, assign, body, hy, hR⟩ := hY _ (⟨(xa, xb), HUA, HUB⟩ : UU) wr.drew hJk (by rw [hpl]; exact hkz)
        dsimp only at hy
        have HR := Lib.hid (hR.mono (R' := fun e W' => ∃ bb : Bool, e = .returned (.bool bb) ∧ Hid ((bb = true ∧ J (pre ++ [(⟨(xa, xb), HUA, HUB⟩ : UU)]) W' ∧ KpAB w₀.heap.size Ba Bb wr.drew W') ∨ (bb = false ∧ Jx (pre ++ [(⟨(xa, xb), HUA, HUB⟩ : UU)]) W'))) (fun e W' h => by
          rcases h with ⟨h1, h2, h3⟩ | ⟨h1, h2⟩
          · exact ⟨true, h1, Lib.hid (.inl ⟨rfl, h2, h3⟩)⟩
          · exact ⟨false, h1, Lib.hid (.inr ⟨rfl, h2⟩)⟩))
        have HC1 : Hid (∀ w', wr.grownBy w' none → Calls Try.prog 38 #[.slice A1 a.length c1, .int .i64 k] w' fun e w'' => e = .returned (.int .u64 xa) ∧ w'' = w') := Lib.hid (fun w' hw => by rw [hxa]; exact atU_any _ a k X w' (HSA.out w' hw) hkb)
        have HC2 : Hid (∀ w', wr.grownBy w' none → Calls Try.prog 38 #[.slice A2 b.length c2, .int .i64 k] w' fun e w'' => e = .returned (.int .u64 xb) ∧ w'' = w') := Lib.hid (fun w' hw => by rw [hxb]; exact atU_any _ b k X w' (HSB.out w' hw) hkb)
        have HPN : Hid ((pre ++ [(⟨(xa, xb), HUA, HUB⟩ : UU)]).map Subtype.val = (zipU a b).take (k + 1)) := Lib.hid (by
          rw [List.map_append, HX.out.1, List.take_succ_eq_append_getElem hkz, HAT.out k hkz, ← hxa, ← hxb]
          rfl)
        have HGD : Hid (wr.grownBy wr.drew none) := Lib.hid (grownBy_drewN (World.grownBy.refl wr none) 1)
        clear hR hJk ca cb hxa hxb
        gi_wp2
        gi_region_with (first
          | (refine ⟨trivial, ?_⟩; gi_at_call 38; (with_reducible refine (callsIn_wide.2 (HC1.out _ HGD.out)).mono ?_); rintro e w' ⟨rfl, rfl⟩)
          | (refine ⟨trivial, ?_⟩; gi_at_call 38; (with_reducible refine (callsIn_wide.2 (HC2.out _ HGD.out)).mono ?_); rintro e w' ⟨rfl, rfl⟩)
          | ((with_reducible refine HR.out.mono ?_); rintro e W' ⟨bb, rfl, hout⟩))
        all_goals (cases bb with
          | true =>
            gi_wp2
            rcases hout.out with ⟨_, hJ2, hK2⟩ | ⟨h, _⟩
            · exact ⟨⟨k + 1, _, by omega, by go_num, Lib.hid ⟨HPN.out, hJ2, HX.out.2.2.trans ((KpAB.drew _ _ _ wr).trans hK2)⟩⟩, by simp [intOf]; omega⟩
            · cases h
          | false =>
            gi_wp2
            rcases hout.out with ⟨h, _⟩ | ⟨_, hJx2⟩
            · cases h
            · refine bodyPost_ret (results_none rfl _ _ _) rfl ?_
              exact ⟨⟨_, rfl⟩, .inr ⟨_, hJx2⟩⟩)
      · obtain rfl : k = b.length := by omega
        gi_wp2
        go_end0
        exact ⟨⟨_, rfl⟩, .inl ⟨pre, by rw [HX.out.1, HN.out, List.take_length], HX.out.2.1⟩⟩
  · have HN : Hid (a.length = (zipU a b).length) := Lib.hid (by rw [HL.out]; omega)
    gi_wp2
    gi_loopw [10] (fun s10 wr => ∃ (k : Nat) (pre : List UU), k ≤ a.length ∧ s10 = .int .i64 k ∧ Hid (pre.map Subtype.val = (zipU a b).take k ∧ J pre wr ∧ KpAB w₀.heap.size Ba Bb W wr)) (fun s10 _ => a.length - (intOf s10).toNat)
    case atStart => exact ⟨0, [], by omega, rfl, Lib.hid ⟨rfl, HH0.out, KpAB.refl _ _ _ _⟩⟩
    case round =>
      obtain ⟨k, pre, hk, rfl, HX⟩ := hrel
      by_cases hlt : k < a.length
      · have hki : (k : Int) < (a.length : Int) := by omega
        have hkz : k < (zipU a b).length := by rw [← HN.out]; exact hlt
        have hkb : (k : Int) ≤ 9223372036854775807 := by omega
        have hpl : pre.length = k := by have := congrArg List.length HX.out.1; simpa [Nat.min_eq_left (Nat.le_of_lt hkz)] using this
        have hca : wr.cell? ⟨Ba, 0, none⟩ = some (.slice A1 a.length c1) := (World.cell?_of_block (w := W) HX.out.2.2.2.1).trans HBA.out.cell
        have hcb : wr.cell? ⟨Bb, 0, none⟩ = some (.slice A2 b.length c2) := (World.cell?_of_block (w := W) HX.out.2.2.2.2).trans HBB.out.cell
        have hJk : J pre wr.drew := hJ _ wr wr.drew none HX.out.2.1 (grownBy_drewN (World.grownBy.refl wr none) 1) (by simp)
        have HGW : Hid (w₀.grownBy wr none) := Lib.hid (grown_of_below (hW0.trans HX.out.2.2.1))
        have HSA : Hid (∀ w', wr.grownBy w' none → Sl encU X w' (.slice A1 a.length c1) a) := Lib.hid (fun w' hw => HA.out.kept (HGW.out.trans hw))
        have HSB : Hid (∀ w', wr.grownBy w' none → Sl encU X w' (.slice A2 b.length c2) b) := Lib.hid (fun w' hw => HB.out.kept (HGW.out.trans hw))
        obtain ⟨xa, hxa⟩ : ∃ x, x = a[k]?.getD 0 := ⟨_, rfl⟩
        obtain ⟨xb, hxb⟩ : ∃ x, x = b[k]?.getD 0 := ⟨_, rfl⟩
        have HUA : U64 xa := by rw [hxa]; exact getD_U64 k (HSA.out wr (World.grownBy.refl _ _))
        have HUB : U64 xb := by rw [hxb]; exact getD_U64 k (HSB.out wr (World.grownBy.refl _ _))
        obtain ⟨fn, tmps, assign, body, hy, hR⟩ := hY _ (⟨(xa, xb), HUA, HUB⟩ : UU) wr.drew hJk (by rw [hpl]; exact hkz)
        dsimp only at hy
        have HR := Lib.hid (hR.mono (R' := fun e W' => ∃ bb : Bool, e = .returned (.bool bb) ∧ Hid ((bb = true ∧ J (pre ++ [(⟨(xa, xb), HUA, HUB⟩ : UU)]) W' ∧ KpAB w₀.heap.size Ba Bb wr.drew W') ∨ (bb = false ∧ Jx (pre ++ [(⟨(xa, xb), HUA, HUB⟩ : UU)]) W'))) (fun e W' h => by
          rcases h with ⟨h1, h2, h3⟩ | ⟨h1, h2⟩
          · exact ⟨true, h1, Lib.hid (.inl ⟨rfl, h2, h3⟩)⟩
          · exact ⟨false, h1, Lib.hid (.inr ⟨rfl, h2⟩)⟩))
        have HC1 : Hid (∀ w', wr.grownBy w' none → Calls Try.prog 38 #[.slice A1 a.length c1, .int .i64 k] w' fun e w'' => e = .returned (.int .u64 xa) ∧ w'' = w') := Lib.hid (fun w' hw => by rw [hxa]; exact atU_any _ a k X w' (HSA.out w' hw) hkb)
        have HC2 : Hid (∀ w', wr.grownBy w' none → Calls Try.prog 38 #[.slice A2 b.length c2, .int .i64 k] w' fun e w'' => e = .returned (.int .u64 xb) ∧ w'' = w') := Lib.hid (fun w' hw => by rw [hxb]; exact atU_any _ b k X w' (HSB.out w' hw) hkb)
        have HPN : Hid ((pre ++ [(⟨(xa, xb), HUA, HUB⟩ : UU)]).map Subtype.val = (zipU a b).take (k + 1)) := Lib.hid (by
          rw [List.map_append, HX.out.1, List.take_succ_eq_append_getElem hkz, HAT.out k hkz, ← hxa, ← hxb]
          rfl)
        have HGD : Hid (wr.grownBy wr.drew none) := Lib.hid (grownBy_drewN (World.grownBy.refl wr none) 1)
        clear hR hJk ca cb hxa hxb
        gi_wp2
        gi_region_with (first
          | (refine ⟨trivial, ?_⟩; gi_at_call 38; (with_reducible refine (callsIn_wide.2 (HC1.out _ HGD.out)).mono ?_); rintro e w' ⟨rfl, rfl⟩)
          | (refine ⟨trivial, ?_⟩; gi_at_call 38; (with_reducible refine (callsIn_wide.2 (HC2.out _ HGD.out)).mono ?_); rintro e w' ⟨rfl, rfl⟩)
          | ((with_reducible refine HR.out.mono ?_); rintro e W' ⟨bb, rfl, hout⟩))
        all_goals (cases bb with
          | true =>
            gi_wp2
            rcases hout.out with ⟨_, hJ2, hK2⟩ | ⟨h, _⟩
            · exact ⟨⟨k + 1, _, by omega, by go_num, Lib.hid ⟨HPN.out, hJ2, HX.out.2.2.trans ((KpAB.drew _ _ _ wr).trans hK2)⟩⟩, by simp [intOf]; omega⟩
            · cases h
          | false =>
            gi_wp2
            rcases hout.out with ⟨h, _⟩ | ⟨_, hJx2⟩
            · cases h
            · refine bodyPost_ret (results_none rfl _ _ _) rfl ?_
              exact ⟨⟨_, rfl⟩, .inr ⟨_, hJx2⟩⟩)
      · obtain rfl : k = a.length := by omega
        gi_wp2
        go_end0
        exact ⟨⟨_, rfl⟩, .inl ⟨pre, by rw [HX.out.1, HN.out, List.take_length], HX.out.2.1⟩⟩
end Go.Proofs.Ytmbbahlenanpfaa
