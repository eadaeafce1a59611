/- Slices that may be written; parts of slices; pieces of lists. -/
import Derived.Test.YtnjbigbiclfcoaaDoorAcc
namespace Go.Proofs.YtnjbigbiclfcoaaDoor
open Go.RowKit

section
variable {α : Type} {E : Enc α} {X Y : Nat → Prop} {w w' : World} {v : Value} {xs : List α}
/-- What a slice's first cells are. -/
theorem Sl.take {A : Option Addr} {n c : Nat} (h : Sl E X w (.slice A n c) xs) (k : Nat) (hk : k ≤ xs.length) : Sl E X w (.slice A k c) (xs.take k) := by
  obtain ⟨A', c', e, h1, h2, h3⟩ := h
  injection e with e1 e2 e3
  subst e1 e2 e3
  refine ⟨A, c, by rw [List.length_take, Nat.min_eq_left hk], by rw [List.length_take]; omega, h2, fun hn => ?_⟩
  obtain ⟨g, o, eA, hg, hX, hc⟩ := h3 (by intro h0; rw [h0] at hn; simp at hn)
  refine ⟨g, o, eA, hg, hX, fun i hi => ?_⟩
  obtain ⟨cs, hr, hcell⟩ := hc i (by rw [List.length_take] at hi; omega)
  exact ⟨cs, by rw [List.getElem_take]; exact hr, hcell⟩
/-- .. its last ones. -/
theorem Sl.drop {g o n c : Nat} (h : Sl E X w (.slice (some ⟨g, o, none⟩) n c) xs) (k : Nat) (hk : k ≤ xs.length) : Sl E X w (.slice (some ⟨g, o + k * E.size, none⟩) (n - k) (c - k)) (xs.drop k) := by
  obtain ⟨A', c', e, h1, h2, h3⟩ := h
  injection e with e1 e2 e3
  subst e1 e2 e3
  refine ⟨_, _, by rw [List.length_drop], by rw [List.length_drop]; omega, by omega, fun hn => ?_⟩
  obtain ⟨g', o', eA, hg, hX, hc⟩ := h3 (by intro h0; rw [h0] at hn; simp at hn)
  injection eA with eA
  injection eA with eg eo
  subst eg eo
  refine ⟨g, _, rfl, hg, hX, fun i hi => ?_⟩
  obtain ⟨cs, hr, hcell⟩ := hc (k + i) (by rw [List.length_drop] at hi; omega)
  refine ⟨cs, by rw [List.getElem_drop]; exact hr, fun j u hu => ?_⟩
  have := hcell j u hu
  rwa [show o + (k + i) * E.size + j = o + k * E.size + i * E.size + j by rw [Nat.add_mul]; omega] at this
theorem Sl.empty (E : Enc α) (X : Nat → Prop) (w : World) (A : Option Addr) (c : Nat) (hc : c ≤ 9223372036854775807) : Sl E X w (.slice A 0 c) [] := ⟨A, c, rfl, Nat.zero_le _, hc, fun h => absurd rfl h⟩
theorem Sl.bounded (h : Sl E X w v xs) : Sl E (fun g => X g ∧ g < w.heap.size) w v xs := h.more fun _ hg hX => ⟨hX, hg⟩
theorem Sl.addr {A : Option Addr} {n c : Nat} (h : Sl E X w (.slice A n c) xs) (hn : 0 < xs.length) : ∃ g o, A = some ⟨g, o, none⟩ ∧ g < w.heap.size ∧ X g := by
  obtain ⟨A', c', e, h1, h2, h3⟩ := h
  injection e with e1 e2 e3
  subst e1 e2 e3
  obtain ⟨g, o, eA, hg, hX, _⟩ := h3 (by intro h0; rw [h0] at hn; simp at hn)
  exact ⟨g, o, eA, hg, hX⟩
/-- A slice's cells may be written, and lie where X says. -/
def Wr (X : Nat → Prop) (w : World) (v : Value) : Prop := ∃ g o n c, v = .slice (some ⟨g, o, none⟩) n c ∧ g < w.heap.size ∧ X g ∧ (∀ i, w.frozen? ⟨g, i, none⟩ = false) ∧ ∃ ob : Obj, w.heap[g]? = some ob ∧ ob.isCells = true
theorem frozen_of_block {g i : Nat} (h : w'.heap[g]? = w.heap[g]?) : w'.frozen? ⟨g, i, none⟩ = w.frozen? ⟨g, i, none⟩ := by simp [World.frozen?, h]
theorem Wr.keep (h : Wr X w v) {row : Option Nat} (hg : w.grownBy w' row) (hX : ∀ g, X g → some g ≠ row) : Wr X w' v := by
  obtain ⟨g, o, n, c, e, hl, hXg, hf, ob, ho, hn⟩ := h
  exact ⟨g, o, n, c, e, Nat.lt_of_lt_of_le hl hg.size, hXg, fun i => (frozen_of_block (hg.block g hl (hX g hXg))).trans (hf i), ob, (hg.block g hl (hX g hXg)).trans ho, hn⟩
theorem Wr.more (h : Wr X w v) (hX : ∀ g, g < w.heap.size → X g → Y g) : Wr Y w v := by
  obtain ⟨g, o, n, c, e, hl, hXg, hf⟩ := h
  exact ⟨g, o, n, c, e, hl, hX g hl hXg, hf⟩
end
theorem Wr.keepc {X : Nat → Prop} {w w' : World} {v : Value} (h : Wr X w v) {row : Option Nat} (hg : w.grownBy w' row) (hr : ∀ r, row = some r → ∃ o : Obj, w.heap[r]? = some o ∧ o.isCells = false) : Wr X w' v := by
  obtain ⟨g, o, n, c, e, hl, hXg, hf, hcl⟩ := h
  have hne : some g ≠ row := fun e => by
    obtain ⟨ob, ho, hn⟩ := hr g e.symm
    obtain ⟨ob', ho', hn'⟩ := hcl
    rw [ho] at ho'
    injection ho' with ho'
    rw [ho', hn'] at hn
    cases hn
  exact ⟨g, o, n, c, e, Nat.lt_of_lt_of_le hl hg.size, hXg, fun i => (frozen_of_block (hg.block g hl hne)).trans (hf i), by obtain ⟨ob, ho, hn⟩ := hcl; exact ⟨ob, (hg.block g hl hne).trans ho, hn⟩⟩
/-- A slice of things that may be written, as a thing. -/
def encW {α : Type} (E : Enc α) : Enc (List α) where
  size := 1
  pos := by decide
  rep := fun X w cs xs => ∃ v, cs = [v] ∧ Sl E X w v xs ∧ Wr X w v
  len := fun h => by obtain ⟨v, rfl, _⟩ := h; rfl
  ones := fun h u hu => by
    obtain ⟨v, rfl, ⟨A, c, rfl, _⟩, _⟩ := h
    simp at hu
    subst hu
    rfl
  keep := fun h hg hX => by obtain ⟨v, e, h, h2⟩ := h; exact ⟨v, e, h.keep hg hX, h2.keep hg hX⟩
  more := fun h hX => by obtain ⟨v, e, h, h2⟩ := h; exact ⟨v, e, h.more hX, h2.more hX⟩
  keepc := fun h hg hr => by obtain ⟨v, e, h, h2⟩ := h; exact ⟨v, e, h.keepc hg hr, h2.keepc hg hr⟩
section
variable {α : Type} {E : Enc α} {X Y : Nat → Prop} {w w' : World} {v : Value} {xs : List α}
theorem Acc.wr {base : Nat} {e : TypeId} (h : Acc E base e X w v xs) (hn : 0 < xs.length) : Wr X w v := by
  have hlt := h.lt
  obtain ⟨hb, css, h1, h2, h3⟩ := h
  rcases h3.2 with ⟨hv, h0⟩ | ⟨g, cap, cur, hv, _, hh, _⟩
  · omega
  · refine ⟨g, 0, xs.length, cap, hv, (hlt g (by rw [hv]; rfl)).2, hb g (by rw [hv]; rfl), fun i => ?_, _, hh, rfl⟩
    simp [World.frozen?, hh]
/-- What reads as slices that may be written reads as slices. -/
theorem Sl.plain {X : Nat → Prop} {w : World} {v : Value} {xs : List (List α)} (h : Sl (encW E) X w v xs) : Sl (encS E) X w v xs := by
  obtain ⟨A, c, e, h1, h2, h3⟩ := h
  refine ⟨A, c, e, h1, h2, fun hn => ?_⟩
  obtain ⟨g, o, eA, hg, hX, hc⟩ := h3 hn
  refine ⟨g, o, eA, hg, hX, fun i hi => ?_⟩
  obtain ⟨cs, ⟨v, e, hs, _⟩, hcell⟩ := hc i hi
  exact ⟨cs, ⟨v, e, hs⟩, hcell⟩
/-- From one way of laying a thing to another. -/
theorem Sl.via {F : Enc α} (hs : E.size = F.size) (hv : ∀ cs y, E.rep X w cs y → F.rep X w cs y) (h : Sl E X w v xs) : Sl F X w v xs := by
  obtain ⟨A, c, e, h1, h2, h3⟩ := h
  refine ⟨A, c, e, h1, h2, fun hn => ?_⟩
  obtain ⟨g, o, eA, hg, hX, hc⟩ := h3 hn
  refine ⟨g, o, eA, hg, hX, fun i hi => ?_⟩
  obtain ⟨cs, hr, hcell⟩ := hc i hi
  exact ⟨cs, hv _ _ hr, by rw [← hs]; exact hcell⟩
theorem Sl.plain2 {X : Nat → Prop} {w : World} {v : Value} {xs : List (List (List α))} (h : Sl (encW (encW E)) X w v xs) : Sl (encS (encS E)) X w v xs :=
  Sl.via (E := encS (encW E)) rfl (fun _ _ ⟨v, e, hs⟩ => ⟨v, e, hs.plain⟩) h.plain
end
/-- A block that is known whole, as a slice. -/
theorem Sl.block {α : Type} {E : Enc α} {X : Nat → Prop} {w : World} {g c : Nat} {t : TypeId} {cs : Array Value} {xs : List α} (h : Bk w g t cs) (hX : X g) (css : List (List Value)) (hl : css.length = xs.length)
    (hr : ∀ i (hi : i < xs.length) (hi' : i < css.length), E.rep X w css[i] xs[i]) (hc : cs.toList = css.flatten) (hn : xs.length ≤ c) (hc2 : c ≤ 9223372036854775807) : Sl E X w (.slice (some ⟨g, 0, none⟩) xs.length c) xs := by
  refine ⟨_, c, rfl, hn, hc2, fun _ => ⟨g, 0, rfl, h.lt, hX, fun i hi => ⟨css[i]'(by omega), hr i hi (by omega), fun j u hu => ?_⟩⟩⟩
  have hf := flatten_at (m := E.size) (fun i hi => E.len (hr i (by omega) hi)) (i := i) (by omega) hu
  rw [Nat.zero_add, h.cell, ← Array.getElem?_toList, hc]
  exact hf
theorem Sl.nils {α : Type} (E : Enc α) (X : Nat → Prop) {w : World} {g n : Nat} {t : TypeId} (h : Bk w g t (madeCells #[.slice none 0 0] n)) (hX : X g) (hn : n ≤ 9223372036854775807) : Sl (encS E) X w (.slice (some ⟨g, 0, none⟩) n n) (List.replicate n []) := by
  have := Sl.block (E := encS E) (xs := List.replicate n ([] : List α)) (c := n) h hX (List.replicate n [.slice none 0 0]) (by simp) (fun i hi hi' => ⟨_, by simp; rfl, by simp; exact Sl.nil E X w⟩) (by rw [toList_madeCells_one]; simp) (by simp) hn
  simpa using this
theorem grown_weak {w w' : World} {row : Option Nat} (h : w.grownBy w' none) : w.grownBy w' row := ⟨h.os, h.tape, h.output, h.size, fun k hk _ => h.block k hk (by simp)⟩
section
variable {α : Type} {P : Program} {E : Enc α} {base : Nat} {e : TypeId} {X Y Z : Nat → Prop} {w w0 : World} {v : Value} {xs : List α}
/-- append([]T{}, ys...): a slice of its own. -/
theorem copy_core {ys : List α} {A : Option Addr} {m c : Nat} {t : TypeId} {bytes : Nat} (hE : ElemOk P t e E.size bytes) (hys : Sl E X w (.slice A m c) ys) (hb : ys.length * bytes ≤ 140737488355328) (hY : ∀ g, w.heap.size ≤ g → Y g) (hXY : ∀ cs y w', E.rep (fun g => X g ∧ g < w.heap.size) w' cs y → E.rep (fun g => Y g ∧ g < w.heap.size) w' cs y)
    {o : Oper} {a : Act} {K : Act → World → Prop} {Q : Exit → Act → World → Prop} (s x : Operand)
    (ho : o.op = .call { callee := .builtin .append, args := #[s, x], argTypes := #[t, t] }) (hs : a.eval s = .slice (some ⟨w.heap.size, 0, none⟩) 0 0) (hx : a.eval x = .slice A m c)
    (h : ∀ A1 c1 w1, Acc E w.heap.size e Y w1 (.slice A1 ys.length c1) ys → w.grownBy w1 none → K (a.put o.dst (.slice A1 ys.length c1)) w1) : o.wp P a (w.alloc (.cells #[] e)) K Q := by
  have hS : Sl E (fun g => X g ∧ g < w.heap.size) (w.alloc (.cells #[] e)) (.slice A m c) ys := hys.bounded.kept (World.grownBy_alloc w _ none)
  refine apps_core (xs := []) (X := Y) (base := w.heap.size) hE (Acc.made _ w e (Nat.le_refl _) Y (hY _ (Nat.le_refl _))) hS (fun cs y hr => E.more (hXY _ _ _ hr) fun g _ hg => ⟨hg.1, fun he => by simp [Value.ownBlock] at he; have := hg.2; omega⟩) (by simpa using hb) (by simp) (fun g hg => hY g (by simp at hg; omega)) s x ho hs hx ?_
  intro v1 w1 hacc hg _
  rw [List.nil_append] at hacc
  obtain ⟨A1, c1, e1, _, _⟩ := hacc.sl.form
  subst e1
  exact h A1 c1 w1 hacc (grown_up (World.grownBy_alloc w _ none) hg (fun g he => by simp [Value.ownBlock] at he; omega))
theorem wpList_copyG {ys : List α} {A : Option Addr} {m c : Nat} {t : TypeId} {bytes : Nat} {ops : Array Oper} {rest : List Oper} {o : Oper} {a : Act} {Q : Exit → Act → World → Prop} (hgd : o.guard = none) (s x : Operand)
    (ho : o.op = .call { callee := .builtin .append, args := #[s, x], argTypes := #[t, t] }) (hE : ElemOk P t e E.size bytes) (hs : a.eval s = .slice (some ⟨w.heap.size, 0, none⟩) 0 0) (hx : a.eval x = .slice A m c) (hys : Sl E X w (.slice A m c) ys) (hb : ys.length * bytes ≤ 140737488355328) (hY : ∀ g, w.heap.size ≤ g → Y g) (hXY : ∀ cs y w', E.rep (fun g => X g ∧ g < w.heap.size) w' cs y → E.rep (fun g => Y g ∧ g < w.heap.size) w' cs y)
    (h : ∀ A1 c1 w1, Acc E w.heap.size e Y w1 (.slice A1 ys.length c1) ys → w.grownBy w1 none → wpList P ops Q rest (a.put o.dst (.slice A1 ys.length c1)) w1) : wpList P ops Q (o :: rest) a (w.alloc (.cells #[] e)) :=
  wpList_plain hgd fun _ hK => copy_core hE hys hb hY hXY s x ho hs hx fun A1 c1 w1 h1 h2 => hK _ _ (h A1 c1 w1 h1 h2)
theorem step_copyG {ys : List α} {A : Option Addr} {m c : Nat} {t : TypeId} {bytes : Nat} {ops : Array Oper} {o : Oper} {a : Act} {K : Act → World → Prop} {Q : Exit → Act → World → Prop} {F : Prop} (hgd : o.guard = none) (s x : Operand)
    (ho : o.op = .call { callee := .builtin .append, args := #[s, x], argTypes := #[t, t] }) (hE : ElemOk P t e E.size bytes) (hs : a.eval s = .slice (some ⟨w.heap.size, 0, none⟩) 0 0) (hx : a.eval x = .slice A m c) (hys : Sl E X w (.slice A m c) ys) (hb : ys.length * bytes ≤ 140737488355328) (hY : ∀ g, w.heap.size ≤ g → Y g) (hXY : ∀ cs y w', E.rep (fun g => X g ∧ g < w.heap.size) w' cs y → E.rep (fun g => Y g ∧ g < w.heap.size) w' cs y)
    (h : ∀ A1 c1 w1, Acc E w.heap.size e Y w1 (.slice A1 ys.length c1) ys → w.grownBy w1 none → K (a.put o.dst (.slice A1 ys.length c1)) w1) : if Region.wanted o (yielded ops a.tmps) = true then Oper.wp P o a (w.alloc (.cells #[] e)) K Q else F := by
  have hw : Region.wanted o (yielded ops a.tmps) = true := by simp [Region.wanted, hgd]
  rw [if_pos hw]
  exact copy_core hE hys hb hY hXY s x ho hs hx h
/-- append(out, y), the call having begun at w0. -/
theorem pushG_core {cs : List Value} {y : α} {t : TypeId} {bytes : Nat} (hE : ElemOk P t e E.size bytes) (hG : w0.grownBy w none) (hacc : Acc E w0.heap.size e Y w v xs) (hY : ∀ g, w0.heap.size ≤ g → Y g) (hrep : E.rep (fun g => Y g ∧ some g ≠ v.ownBlock) w cs y)
    (hlen : (xs.length + 1) * bytes ≤ 140737488355328)
    {o : Oper} {a : Act} {K : Act → World → Prop} {Q : Exit → Act → World → Prop} (s x : Operand)
    (ho : o.op = .call { callee := .builtin .append, args := #[s, x], argTypes := #[t, t] }) (hs : a.eval s = v) (hx : a.eval x = .slice (some ⟨w.heap.size, 0, none⟩) 1 1)
    (h : ∀ v' w', Acc E w0.heap.size e Y w' v' (xs ++ [y]) → w0.grownBy w' none → w.grownBy w' v.ownBlock → K (a.put o.dst v') w') : o.wp P a (w.alloc (.cells cs.toArray e)) K Q :=
  push_core hE hacc hrep hlen hG.size (fun g hg => hY g (Nat.le_trans hG.size hg)) s x ho hs hx fun v' w' h1 h2 _ => h v' w' h1 (grown_up hG h2 fun g he => (hacc.lt g he).1) h2
theorem wpList_pushG {cs : List Value} {y : α} {t : TypeId} {bytes : Nat} {ops : Array Oper} {rest : List Oper} {o : Oper} {a : Act} {Q : Exit → Act → World → Prop} (hgd : o.guard = none) (s x : Operand)
    (ho : o.op = .call { callee := .builtin .append, args := #[s, x], argTypes := #[t, t] }) (hE : ElemOk P t e E.size bytes) (hG : w0.grownBy w none) (hacc : Acc E w0.heap.size e Y w v xs) (hY : ∀ g, w0.heap.size ≤ g → Y g) (hrep : E.rep (fun g => Y g ∧ some g ≠ v.ownBlock) w cs y)
    (hlen : (xs.length + 1) * bytes ≤ 140737488355328) (hs : a.eval s = v) (hx : a.eval x = .slice (some ⟨w.heap.size, 0, none⟩) 1 1)
    (h : ∀ v' w', Acc E w0.heap.size e Y w' v' (xs ++ [y]) → w0.grownBy w' none → w.grownBy w' v.ownBlock → wpList P ops Q rest (a.put o.dst v') w') : wpList P ops Q (o :: rest) a (w.alloc (.cells cs.toArray e)) :=
  wpList_plain hgd fun _ hK => pushG_core hE hG hacc hY hrep hlen s x ho hs hx fun v' w' h1 h2 h3 => hK _ _ (h v' w' h1 h2 h3)
theorem step_pushG {cs : List Value} {y : α} {t : TypeId} {bytes : Nat} {ops : Array Oper} {o : Oper} {a : Act} {K : Act → World → Prop} {Q : Exit → Act → World → Prop} {F : Prop} (hgd : o.guard = none) (s x : Operand)
    (ho : o.op = .call { callee := .builtin .append, args := #[s, x], argTypes := #[t, t] }) (hE : ElemOk P t e E.size bytes) (hG : w0.grownBy w none) (hacc : Acc E w0.heap.size e Y w v xs) (hY : ∀ g, w0.heap.size ≤ g → Y g) (hrep : E.rep (fun g => Y g ∧ some g ≠ v.ownBlock) w cs y)
    (hlen : (xs.length + 1) * bytes ≤ 140737488355328) (hs : a.eval s = v) (hx : a.eval x = .slice (some ⟨w.heap.size, 0, none⟩) 1 1)
    (h : ∀ v' w', Acc E w0.heap.size e Y w' v' (xs ++ [y]) → w0.grownBy w' none → w.grownBy w' v.ownBlock → K (a.put o.dst v') w') : if Region.wanted o (yielded ops a.tmps) = true then Oper.wp P o a (w.alloc (.cells cs.toArray e)) K Q else F := by
  have hw : Region.wanted o (yielded ops a.tmps) = true := by simp [Region.wanted, hgd]
  rw [if_pos hw]
  exact pushG_core hE hG hacc hY hrep hlen s x ho hs hx h
end
/-- k pieces of n each. -/
def chk {α : Type} (n : Nat) (l : List α) (k : Nat) : List (List α) := (List.range k).map fun j => (l.drop (j * n)).take n
theorem chk_zero {α : Type} (n : Nat) (l : List α) : chk n l 0 = [] := rfl
theorem chk_succ {α : Type} (n : Nat) (l : List α) (k : Nat) : chk n l (k + 1) = chk n l k ++ [(l.drop (k * n)).take n] := by
  unfold chk
  rw [List.range_succ, List.map_append]
  rfl
theorem chk_length {α : Type} (n : Nat) (l : List α) (k : Nat) : (chk n l k).length = k := by simp [chk]
/-- A call that told a slice xs, and an error's number. -/
def GivesE {α : Type} (E : Enc α) (Y : Nat → Prop) (w : World) (xs : List α) (n : Int) (e : Ending) (w' : World) : Prop := ∃ v, e = .returned (.tuple #[v, .int .i64 n]) ∧ Sl E Y w' v xs ∧ w.grownBy w' none
/-- A call that told a slice xs; what lay there stands. -/
def Gives {α : Type} (E : Enc α) (Y : Nat → Prop) (w : World) (xs : List α) (e : Ending) (w' : World) : Prop := ∃ v, e = .returned v ∧ Sl E Y w' v xs ∧ w.grownBy w' none
end Go.Proofs.YtnjbigbiclfcoaaDoor
