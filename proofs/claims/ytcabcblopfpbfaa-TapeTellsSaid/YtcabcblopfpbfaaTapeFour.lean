/- Four tapes at once: tape's and the document's, twice. -/
import Derived.Test.YtcabcblopfpbfaaRTapeD
import Derived.Test.YtcabcblopfpbfaaTapeJumps
namespace Go.Proofs.Ytcabcblopfpbfaa
open Go.RowKit

theorem own_cap {w : World} {base : Nat} {e : TypeId} {A : Option Addr} {n c : Nat} {xs : List Value} (h : w.ownsRow base e 1 (.slice A n c) n xs) : n ≤ c ∧ c ≤ 9223372036854775807 := by
  rcases h.2 with ⟨hv, h0⟩ | ⟨g, cap, cur, hv, _, _, hnc, hcm, _⟩
  · injection hv with _ _ e
    subst e
    omega
  · injection hv with _ _ e
    subst e
    unfold maxLen at hcm
    omega
/-- Where four tapes lie. -/
structure Quad where
  b1 : Nat
  g1 : Nat
  b2 : Nat
  g2 : Nat
  b3 : Nat
  g3 : Nat
  b4 : Nat
  g4 : Nat
/-- They lie one behind the other, from m on. -/
def Quad.sep (B : Quad) (m : Nat) : Prop :=
  m ≤ B.b1 ∧ m ≤ B.g1 ∧ B.b1 < B.b2 ∧ B.g1 < B.b2 ∧ B.b1 < B.g2 ∧ B.b2 < B.b3 ∧ B.g2 < B.b3 ∧ B.b2 < B.g3 ∧ B.b3 < B.b4 ∧ B.g3 < B.b4 ∧ B.b3 < B.g4
def Quad.low (B : Quad) (k : Nat) : Prop := B.b1 < k ∧ B.g1 < k ∧ B.b2 < k ∧ B.g2 < k ∧ B.b3 < k ∧ B.g3 < k ∧ B.b4 < k ∧ B.g4 < k
def Four (w wx : World) (B : Quad) (T1 T2 T3 T4 : TS) : Prop :=
  TapeIs wx B.b1 B.g1 T1 ∧ RTapeIs wx B.b2 B.g2 T2 ∧ TapeIs wx B.b3 B.g3 T3 ∧ RTapeIs wx B.b4 B.g4 T4 ∧ w.grownBy wx none ∧ B.sep w.heap.size ∧ B.low wx.heap.size
theorem Quad.low.up {B : Quad} {k m : Nat} (h : B.low k) (hk : k ≤ m) : B.low m := by
  unfold Quad.low at *
  omega
theorem Four.far {w wx wy : World} {B : Quad} {T1 T2 T3 T4 : TS} {row : Option Nat} (h : Four w wx B T1 T2 T3 T4) (hg : wx.grownBy wy row)
    (hr : ∀ g, row = some g → w.heap.size ≤ g ∧ g ≠ B.b1 ∧ g ≠ B.g1 ∧ g ≠ B.b2 ∧ g ≠ B.g2 ∧ g ≠ B.b3 ∧ g ≠ B.g3 ∧ g ≠ B.b4 ∧ g ≠ B.g4) : Four w wy B T1 T2 T3 T4 := by
  obtain ⟨t1, t2, t3, t4, hg0, hs, hl⟩ := h
  have k : ∀ b, (∀ g, row = some g → g ≠ b) → some b ≠ row := fun b hb e => hb b e.symm rfl
  exact ⟨t1.grown hg (k _ fun g e => (hr g e).2.1) (k _ fun g e => (hr g e).2.2.1), t2.grown hg (k _ fun g e => (hr g e).2.2.2.1) (k _ fun g e => (hr g e).2.2.2.2.1),
    t3.grown hg (k _ fun g e => (hr g e).2.2.2.2.2.1) (k _ fun g e => (hr g e).2.2.2.2.2.2.1), t4.grown hg (k _ fun g e => (hr g e).2.2.2.2.2.2.2.1) (k _ fun g e => (hr g e).2.2.2.2.2.2.2.2),
    grown_up hg0 hg (fun g e => (hr g e).1), hs, hl.up hg.size⟩
theorem Four.up {w wx wy : World} {B : Quad} {T1 T2 T3 T4 : TS} (h : Four w wx B T1 T2 T3 T4) (hg : wx.grownBy wy none) : Four w wy B T1 T2 T3 T4 := h.far hg (by simp)
theorem four_1 (w wx : World) (B : Quad) (T1 T2 T3 T4 : TS) (q : Int) (h : Hid (Four w wx B T1 T2 T3 T4)) (hT : Hid T1.ok) (hq : Hid (U64 q)) :
    Calls Try.prog 12 #[.pointer (some ⟨B.b1, 0, none⟩), .int .u64 q] wx fun e w' => e = .returned (.int .u64 (T1.val q)) ∧ Hid (Four w w' B (T1.next q) T2 T3 T4) := by
  obtain ⟨t1, t2, t3, t4, hg, hs, hl⟩ := h.out
  refine (next_any B.b1 B.g1 q T1 wx t1 hT.out hq.out).mono ?_
  rintro e w' ⟨rfl, ht, hg'⟩
  have hs' := hs
  unfold Quad.sep at hs'
  exact ⟨rfl, Lib.hid ⟨ht, t2.grown hg' (by simp; omega) (by simp; omega), t3.grown hg' (by simp; omega) (by simp; omega), t4.grown hg' (by simp; omega) (by simp; omega), grown_tape hg hg' (by omega), hs, hl.up hg'.size⟩⟩
theorem four_2 (w wx : World) (B : Quad) (T1 T2 T3 T4 : TS) (q : Int) (h : Hid (Four w wx B T1 T2 T3 T4)) (hT : Hid T2.ok) (hq : Hid (U64 q)) :
    Calls Try.prog 20 #[.pointer (some ⟨B.b2, 0, none⟩), .int .u64 q] wx fun e w' => e = .returned (.int .u64 (T2.val q)) ∧ Hid (Four w w' B T1 (T2.next q) T3 T4) := by
  obtain ⟨t1, t2, t3, t4, hg, hs, hl⟩ := h.out
  refine (rnext_any B.b2 B.g2 q T2 wx t2 hT.out hq.out).mono ?_
  rintro e w' ⟨rfl, ht, hg'⟩
  have hs' := hs
  unfold Quad.sep at hs'
  exact ⟨rfl, Lib.hid ⟨t1.grown hg' (by simp; omega) (by simp; omega), ht, t3.grown hg' (by simp; omega) (by simp; omega), t4.grown hg' (by simp; omega) (by simp; omega), grown_tape hg hg' (by omega), hs, hl.up hg'.size⟩⟩
theorem four_3 (w wx : World) (B : Quad) (T1 T2 T3 T4 : TS) (q : Int) (h : Hid (Four w wx B T1 T2 T3 T4)) (hT : Hid T3.ok) (hq : Hid (U64 q)) :
    Calls Try.prog 12 #[.pointer (some ⟨B.b3, 0, none⟩), .int .u64 q] wx fun e w' => e = .returned (.int .u64 (T3.val q)) ∧ Hid (Four w w' B T1 T2 (T3.next q) T4) := by
  obtain ⟨t1, t2, t3, t4, hg, hs, hl⟩ := h.out
  refine (next_any B.b3 B.g3 q T3 wx t3 hT.out hq.out).mono ?_
  rintro e w' ⟨rfl, ht, hg'⟩
  have hs' := hs
  unfold Quad.sep at hs'
  exact ⟨rfl, Lib.hid ⟨t1.grown hg' (by simp; omega) (by simp; omega), t2.grown hg' (by simp; omega) (by simp; omega), ht, t4.grown hg' (by simp; omega) (by simp; omega), grown_tape hg hg' (by omega), hs, hl.up hg'.size⟩⟩
theorem four_4 (w wx : World) (B : Quad) (T1 T2 T3 T4 : TS) (q : Int) (h : Hid (Four w wx B T1 T2 T3 T4)) (hT : Hid T4.ok) (hq : Hid (U64 q)) :
    Calls Try.prog 20 #[.pointer (some ⟨B.b4, 0, none⟩), .int .u64 q] wx fun e w' => e = .returned (.int .u64 (T4.val q)) ∧ Hid (Four w w' B T1 T2 T3 (T4.next q)) := by
  obtain ⟨t1, t2, t3, t4, hg, hs, hl⟩ := h.out
  refine (rnext_any B.b4 B.g4 q T4 wx t4 hT.out hq.out).mono ?_
  rintro e w' ⟨rfl, ht, hg'⟩
  have hs' := hs
  unfold Quad.sep at hs'
  exact ⟨rfl, Lib.hid ⟨t1.grown hg' (by simp; omega) (by simp; omega), t2.grown hg' (by simp; omega) (by simp; omega), t3.grown hg' (by simp; omega) (by simp; omega), ht, grown_tape hg hg' (by omega), hs, hl.up hg'.size⟩⟩
theorem Four.drew {w wx : World} {B : Quad} {T1 T2 T3 T4 : TS} (h : Hid (Four w wx B T1 T2 T3 T4)) : Hid (Four w wx.drew B T1 T2 T3 T4) := Lib.hid (h.out.up (grownBy_drewN (World.grownBy.refl wx none) 1))
/-- The count of draws of the document's tape, where it lies. -/
theorem RTapeIs.d_cell {w : World} {b ga : Nat} {T : TS} (h : RTapeIs w b ga T) : w.cell? ⟨b, 2, none⟩ = some (.int .i64 T.d) := by
  obtain ⟨A, c, hk, _⟩ := h
  exact hk.cell 2
theorem four_at1 (w wx : World) (B : Quad) (T1 T2 T3 T4 : TS) (h : Hid (Four w wx B T1 T2 T3 T4)) :
    Calls Try.prog 13 #[.pointer (some ⟨B.b1, 0, none⟩)] wx fun e w' => e = .returned (.int .i64 T1.d) ∧ w' = wx := at_tape _ _ _ _ h.out.1
theorem four_at3 (w wx : World) (B : Quad) (T1 T2 T3 T4 : TS) (h : Hid (Four w wx B T1 T2 T3 T4)) :
    Calls Try.prog 13 #[.pointer (some ⟨B.b3, 0, none⟩)] wx fun e w' => e = .returned (.int .i64 T3.d) ∧ w' = wx := at_tape _ _ _ _ h.out.2.2.1
end Go.Proofs.Ytcabcblopfpbfaa
