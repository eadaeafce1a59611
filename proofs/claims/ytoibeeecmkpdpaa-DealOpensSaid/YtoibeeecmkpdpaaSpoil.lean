/- Numbers written over, nothing else turned. -/
import Derived.Test.YtoibeeecmkpdpaaEncW
namespace Go.Proofs.Ytoibeeecmkpdpaa
open Go.RowKit

structure Sp (B : Nat) (wS w' : World) : Prop where
  os : w'.os = wS.os
  tape : w'.tape = wS.tape
  output : w'.output = wS.output
  size : w'.heap.size = wS.heap.size
  low : ∀ k, k < B → w'.heap[k]? = wS.heap[k]?
  cell : ∀ g o, w'.cell? ⟨g, o, none⟩ = wS.cell? ⟨g, o, none⟩ ∨ ∃ x y, wS.cell? ⟨g, o, none⟩ = some (.int .u64 x) ∧ w'.cell? ⟨g, o, none⟩ = some (.int .u64 y)
  frz : ∀ g i, w'.frozen? ⟨g, i, none⟩ = wS.frozen? ⟨g, i, none⟩
section
variable {B : Nat} {wS w' w : World}
theorem Sp.refl (B : Nat) (w : World) : Sp B w w := ⟨rfl, rfl, rfl, rfl, fun _ _ => rfl, fun _ _ => .inl rfl, fun _ _ => rfl⟩
theorem Sp.num (h : Sp B wS w') {g o : Nat} {x : Int} (hc : wS.cell? ⟨g, o, none⟩ = some (.int .u64 x)) : ∃ y, w'.cell? ⟨g, o, none⟩ = some (.int .u64 y) := by
  rcases h.cell g o with e | ⟨_, y, _, e⟩
  · exact ⟨x, e.trans hc⟩
  · exact ⟨y, e⟩
theorem Sp.head (h : Sp B wS w') {g o : Nat} {A : Option Addr} {n c : Nat} (hc : wS.cell? ⟨g, o, none⟩ = some (.slice A n c)) : w'.cell? ⟨g, o, none⟩ = some (.slice A n c) := by
  rcases h.cell g o with e | ⟨x, _, e, _⟩
  · exact e.trans hc
  · rw [hc] at e; cases e
theorem Sp.set (h : Sp B wS w') {g o : Nat} {x z : Int} (hB : B ≤ g) (hc : wS.cell? ⟨g, o, none⟩ = some (.int .u64 x)) : Sp B wS (w'.setCell ⟨g, o, none⟩ (.int .u64 z)) := by
  refine ⟨h.os, h.tape, h.output, by simpa [World.setCell] using h.size, fun k hk => (Below.heap_setCell w' ⟨g, o, none⟩ _ k (by simp; omega)).trans (h.low k hk), fun g' o' => ?_, fun g' i => by rw [World.frozen?_setCell]; exact h.frz g' i⟩
  by_cases he : (⟨g, o, none⟩ : Addr) = ⟨g', o', none⟩
  · injection he with e1 e2
    subst e1 e2
    obtain ⟨y, hy⟩ := h.num hc
    exact .inr ⟨x, z, hc, World.cell?_setCell_same _ _ _ hy⟩
  · rw [World.cell?_setCell_other _ _ _ _ he]
    exact h.cell g' o'
theorem Sp.grown (h : Sp w.heap.size wS w') (hg : w.grownBy wS none) : w.grownBy w' none :=
  ⟨h.os.trans hg.os, h.tape.trans hg.tape, h.output.trans hg.output, by rw [h.size]; exact hg.size, fun k hk _ => (h.low k hk).trans (hg.block k hk (by simp))⟩
end
/-- Where a number's list lies, and that it may be written. -/
theorem Sl.atW {α : Type} {E : Enc α} {X : Nat → Prop} {w : World} {v : Value} {xs : List (List α)} (h : Sl (encW E) X w v xs) {k : Nat} (hk : k < xs.length) :
    ∃ g o c u, v = .slice (some ⟨g, o, none⟩) xs.length c ∧ g < w.heap.size ∧ X g ∧ w.cell? ⟨g, o + k, none⟩ = some u ∧ Sl E X w u xs[k] ∧ Wr X w u := by
  obtain ⟨g, o, c, cs, e, hg, hX, ⟨u, rfl, hu, hw⟩, hc⟩ := h.at hk
  have h0 := hc 0 _ rfl
  rw [show (encW E).size = 1 from rfl, Nat.mul_one] at h0
  exact ⟨g, o, c, u, e, hg, hX, h0, hu, hw⟩
/-- The first number of a list that may be written. -/
theorem first_of {X : Nat → Prop} {w : World} {u : Value} {xs : List Int} (h : Sl encU X w u xs) (hw : Wr X w u) (hx : 0 < xs.length) :
    ∃ g o c x, u = .slice (some ⟨g, o, none⟩) xs.length c ∧ X g ∧ w.cell? ⟨g, o, none⟩ = some (.int .u64 x) ∧ ∀ i, w.frozen? ⟨g, i, none⟩ = false := by
  obtain ⟨g, o, c, e, _, hX, hc, _⟩ := h.atU hx
  obtain ⟨g', o', n', c', e', _, _, hf⟩ := hw
  rw [e] at e'
  injection e' with e1 e2 e3
  injection e1 with e1
  injection e1 with e1 e4
  subst e1
  exact ⟨g, o, c, _, e, hX, by simpa using hc, hf⟩
end Go.Proofs.Ytoibeeecmkpdpaa
