/- Data in memory, told by what it reads as: numbers, pairs, slices of them, however deep. -/
import Derived.Test.YtnjbigbiclfcoaaDoorMem
import Derived.Deep.AppendLies
import Derived.RangeFuncOwn
namespace Go.Proofs.YtnjbigbiclfcoaaDoor
open Go.RowKit

def I64 (a : Int) : Prop := -9223372036854775808 ≤ a ∧ a ≤ 9223372036854775807

/-- How a thing of a kind lies in cells; X: in which blocks what it leads to may lie. -/
structure Enc (α : Type) where
  size : Nat
  pos : 0 < size
  rep : (Nat → Prop) → World → List Value → α → Prop
  len : ∀ {X w cs x}, rep X w cs x → cs.length = size
  ones : ∀ {X w cs x}, rep X w cs x → ∀ u ∈ cs, u.oneCell' = true
  keep : ∀ {X w w' row cs x}, rep X w cs x → w.grownBy w' row → (∀ g, X g → some g ≠ row) → rep X w' cs x
  more : ∀ {X Y w cs x}, rep X w cs x → (∀ g, g < w.heap.size → X g → Y g) → rep Y w cs x
  keepc : ∀ {X w w' row cs x}, rep X w cs x → w.grownBy w' row → (∀ r, row = some r → ∃ o : Obj, w.heap[r]? = some o ∧ o.isCells = false) → rep X w' cs x

/-- A number of 64 bits. -/
def encU : Enc Int where
  size := 1
  pos := by decide
  rep := fun _ _ cs n => cs = [.int .u64 n] ∧ U64 n
  len := fun h => by rw [h.1]; rfl
  ones := fun h u hu => by rw [h.1] at hu; simp at hu; subst hu; rfl
  keep := fun h _ _ => h
  more := fun h _ => h
  keepc := fun h _ _ => h
/-- A number with a sign. -/
def encI : Enc Int where
  size := 1
  pos := by decide
  rep := fun _ _ cs n => cs = [.int .i64 n] ∧ I64 n
  len := fun h => by rw [h.1]; rfl
  ones := fun h u hu => by rw [h.1] at hu; simp at hu; subst hu; rfl
  keep := fun h _ _ => h
  more := fun h _ => h
  keepc := fun h _ _ => h
/-- A pair of numbers. -/
def encP : Enc (Int × Int) where
  size := 2
  pos := by decide
  rep := fun _ _ cs x => cs = [.int .u64 x.1, .int .u64 x.2] ∧ U64 x.1 ∧ U64 x.2
  len := fun h => by rw [h.1]; rfl
  ones := fun h u hu => by rw [h.1] at hu; simp at hu; rcases hu with rfl | rfl <;> rfl
  keep := fun h _ _ => h
  more := fun h _ => h
  keepc := fun h _ _ => h

/-- The slice value v reads as the things xs. -/
def Sl {α : Type} (E : Enc α) (X : Nat → Prop) (w : World) (v : Value) (xs : List α) : Prop :=
  ∃ A c, v = .slice A xs.length c ∧ xs.length ≤ c ∧ c ≤ 9223372036854775807 ∧
    (xs ≠ [] → ∃ g o, A = some ⟨g, o, none⟩ ∧ g < w.heap.size ∧ X g ∧
      ∀ i (h : i < xs.length), ∃ cs, E.rep X w cs xs[i] ∧ ∀ j u, cs[j]? = some u → w.cell? ⟨g, o + i * E.size + j, none⟩ = some u)

section
variable {α : Type} {E : Enc α} {X Y : Nat → Prop} {w w' : World} {v : Value} {xs : List α}
theorem Sl.nil (E : Enc α) (X : Nat → Prop) (w : World) : Sl E X w (.slice none 0 0) [] := ⟨none, 0, rfl, Nat.le_refl _, by omega, fun h => absurd rfl h⟩
theorem Sl.keep (h : Sl E X w v xs) {row : Option Nat} (hg : w.grownBy w' row) (hX : ∀ g, X g → some g ≠ row) : Sl E X w' v xs := by
  obtain ⟨A, c, e, h1, h2, h3⟩ := h
  refine ⟨A, c, e, h1, h2, fun hn => ?_⟩
  obtain ⟨g, o, eA, hgl, hXg, hc⟩ := h3 hn
  refine ⟨g, o, eA, Nat.lt_of_lt_of_le hgl hg.size, hXg, fun i hi => ?_⟩
  obtain ⟨cs, hr, hcell⟩ := hc i hi
  exact ⟨cs, E.keep hr hg hX, fun j u hu => by rw [World.cell?_of_block (w := w) (hg.block g hgl (hX g hXg))]; exact hcell j u hu⟩
/-- A block of cells is none that is no cells. -/
theorem cell_ne {g o : Nat} {u : Value} {row : Option Nat} (hc : w.cell? ⟨g, o, none⟩ = some u) (hr : ∀ r, row = some r → ∃ o : Obj, w.heap[r]? = some o ∧ o.isCells = false) : some g ≠ row := fun e => by
  obtain ⟨ob, ho, hn⟩ := hr g e.symm
  unfold World.cell? at hc
  simp only [ho] at hc
  cases ob with
  | cells => cases hn
  | _ => simp at hc
theorem Sl.keepc (h : Sl E X w v xs) {row : Option Nat} (hg : w.grownBy w' row) (hr : ∀ r, row = some r → ∃ o : Obj, w.heap[r]? = some o ∧ o.isCells = false) : Sl E X w' v xs := by
  obtain ⟨A, c, e, h1, h2, h3⟩ := h
  refine ⟨A, c, e, h1, h2, fun hn => ?_⟩
  obtain ⟨g, o, eA, hgl, hXg, hc⟩ := h3 hn
  have hpos : 0 < xs.length := List.length_pos_iff.2 hn
  obtain ⟨cs0, hr0, hc0⟩ := hc 0 hpos
  have hl0 := E.len hr0
  have hne : some g ≠ row := cell_ne (hc0 0 _ (List.getElem?_eq_getElem (by rw [hl0]; exact E.pos))) hr
  refine ⟨g, o, eA, Nat.lt_of_lt_of_le hgl hg.size, hXg, fun i hi => ?_⟩
  obtain ⟨cs, hrp, hcell⟩ := hc i hi
  exact ⟨cs, E.keepc hrp hg hr, fun j u hu => by rw [World.cell?_of_block (w := w) (hg.block g hgl hne)]; exact hcell j u hu⟩
theorem Sl.kept (h : Sl E X w v xs) (hg : w.grownBy w' none) : Sl E X w' v xs := h.keep hg (by simp)
theorem Sl.more (h : Sl E X w v xs) (hX : ∀ g, g < w.heap.size → X g → Y g) : Sl E Y w v xs := by
  obtain ⟨A, c, e, h1, h2, h3⟩ := h
  refine ⟨A, c, e, h1, h2, fun hn => ?_⟩
  obtain ⟨g, o, eA, hgl, hXg, hc⟩ := h3 hn
  refine ⟨g, o, eA, hgl, hX g hgl hXg, fun i hi => ?_⟩
  obtain ⟨cs, hr, hcell⟩ := hc i hi
  exact ⟨cs, E.more hr hX, hcell⟩
theorem Sl.form (h : Sl E X w v xs) : ∃ A c, v = .slice A xs.length c ∧ xs.length ≤ c ∧ c ≤ 9223372036854775807 := by
  obtain ⟨A, c, e, h1, h2, _⟩ := h
  exact ⟨A, c, e, h1, h2⟩
theorem Sl.bound (h : Sl E X w v xs) : xs.length ≤ 9223372036854775807 := by
  obtain ⟨A, c, e, h1, h2, _⟩ := h
  omega
theorem Sl.at (h : Sl E X w v xs) {k : Nat} (hk : k < xs.length) : ∃ g o c cs, v = .slice (some ⟨g, o, none⟩) xs.length c ∧ g < w.heap.size ∧ X g ∧ E.rep X w cs xs[k] ∧ ∀ j u, cs[j]? = some u → w.cell? ⟨g, o + k * E.size + j, none⟩ = some u := by
  obtain ⟨A, c, e, h1, h2, h3⟩ := h
  obtain ⟨g, o, rfl, hgl, hXg, hc⟩ := h3 (by intro h0; rw [h0] at hk; exact absurd hk (by simp))
  obtain ⟨cs, hr, hcell⟩ := hc k hk
  exact ⟨g, o, c, cs, e, hgl, hXg, hr, hcell⟩
end
theorem Sl.atU {X : Nat → Prop} {w : World} {v : Value} {xs : List Int} (h : Sl encU X w v xs) {k : Nat} (hk : k < xs.length) :
    ∃ g o c, v = .slice (some ⟨g, o, none⟩) xs.length c ∧ g < w.heap.size ∧ X g ∧ w.cell? ⟨g, o + k, none⟩ = some (.int .u64 xs[k]) ∧ U64 xs[k] := by
  obtain ⟨g, o, c, cs, e, hg, hX, ⟨rfl, hu⟩, hc⟩ := h.at hk
  have h0 := hc 0 _ rfl
  rw [show encU.size = 1 from rfl, Nat.mul_one] at h0
  exact ⟨g, o, c, e, hg, hX, h0, hu⟩
theorem Sl.atI {X : Nat → Prop} {w : World} {v : Value} {xs : List Int} (h : Sl encI X w v xs) {k : Nat} (hk : k < xs.length) :
    ∃ g o c, v = .slice (some ⟨g, o, none⟩) xs.length c ∧ g < w.heap.size ∧ X g ∧ w.cell? ⟨g, o + k, none⟩ = some (.int .i64 xs[k]) ∧ I64 xs[k] := by
  obtain ⟨g, o, c, cs, e, hg, hX, ⟨rfl, hu⟩, hc⟩ := h.at hk
  have h0 := hc 0 _ rfl
  rw [show encI.size = 1 from rfl, Nat.mul_one] at h0
  exact ⟨g, o, c, e, hg, hX, h0, hu⟩
theorem Sl.atP {X : Nat → Prop} {w : World} {v : Value} {xs : List (Int × Int)} (h : Sl encP X w v xs) {k : Nat} (hk : k < xs.length) :
    ∃ g o c, v = .slice (some ⟨g, o, none⟩) xs.length c ∧ g < w.heap.size ∧ X g ∧ w.cell? ⟨g, o + k * 2, none⟩ = some (.int .u64 xs[k].1) ∧ w.cell? ⟨g, o + k * 2 + 1, none⟩ = some (.int .u64 xs[k].2) ∧ U64 xs[k].1 ∧ U64 xs[k].2 := by
  obtain ⟨g, o, c, cs, e, hg, hX, ⟨rfl, hu⟩, hc⟩ := h.at hk
  exact ⟨g, o, c, e, hg, hX, hc 0 _ rfl, hc 1 _ rfl, hu⟩

/-- A slice of things, as a thing. -/
def encS {α : Type} (E : Enc α) : Enc (List α) where
  size := 1
  pos := by decide
  rep := fun X w cs xs => ∃ v, cs = [v] ∧ Sl E X w v xs
  len := fun h => by obtain ⟨v, rfl, _⟩ := h; rfl
  ones := fun h u hu => by
    obtain ⟨v, rfl, A, c, rfl, _⟩ := h
    simp at hu
    subst hu
    rfl
  keep := fun h hg hX => by obtain ⟨v, e, h⟩ := h; exact ⟨v, e, h.keep hg hX⟩
  more := fun h hX => by obtain ⟨v, e, h⟩ := h; exact ⟨v, e, h.more hX⟩
  keepc := fun h hg hr => by obtain ⟨v, e, h⟩ := h; exact ⟨v, e, h.keepc hg hr⟩
theorem Sl.atS {α : Type} {E : Enc α} {X : Nat → Prop} {w : World} {v : Value} {xs : List (List α)} (h : Sl (encS E) X w v xs) {k : Nat} (hk : k < xs.length) :
    ∃ g o c u, v = .slice (some ⟨g, o, none⟩) xs.length c ∧ g < w.heap.size ∧ X g ∧ w.cell? ⟨g, o + k, none⟩ = some u ∧ Sl E X w u xs[k] := by
  obtain ⟨g, o, c, cs, e, hg, hX, ⟨u, rfl, hu⟩, hc⟩ := h.at hk
  have h0 := hc 0 _ rfl
  rw [show (encS E).size = 1 from rfl, Nat.mul_one] at h0
  exact ⟨g, o, c, u, e, hg, hX, h0, hu⟩

theorem flatten_at {css : List (List Value)} {m : Nat} (hl : ∀ i (h : i < css.length), css[i].length = m) : ∀ {i : Nat} (hi : i < css.length) {j : Nat} {u : Value}, css[i][j]? = some u → css.flatten[i * m + j]? = some u := by
  induction css with
  | nil => intro i hi; exact absurd hi (by simp)
  | cons c css ih =>
    intro i hi j u hu
    have hc : c.length = m := hl 0 (by simp)
    cases i with
    | zero =>
      simp only [List.getElem_cons_zero] at hu
      have hj : j < c.length := (List.getElem?_eq_some_iff.1 hu).1
      rw [List.flatten_cons, Nat.zero_mul, Nat.zero_add, List.getElem?_append_left hj]
      exact hu
    | succ i =>
      simp only [List.getElem_cons_succ] at hu
      have h := ih (fun i h => hl (i + 1) (by simpa using h)) (by simpa using hi) hu
      rw [List.flatten_cons, List.getElem?_append_right (by rw [hc, Nat.add_mul]; omega), hc]
      rw [show (i + 1) * m + j - m = i * m + j by rw [Nat.add_mul]; omega]
      exact h

/-- The slice value v is one of the call's own, from block base on, and reads as the things xs, which do not lie in its row. -/
def Acc {α : Type} (E : Enc α) (base : Nat) (e : TypeId) (X : Nat → Prop) (w : World) (v : Value) (xs : List α) : Prop :=
  (∀ g, v.ownBlock = some g → X g) ∧ ∃ css : List (List Value), css.length = xs.length ∧ (∀ i (h : i < xs.length) (h' : i < css.length), E.rep (fun g => X g ∧ some g ≠ v.ownBlock) w css[i] xs[i]) ∧ w.ownsRow base e E.size v xs.length css.flatten
section
variable {α : Type} {E : Enc α} {base : Nat} {e : TypeId} {X Y : Nat → Prop} {w w' : World} {v : Value} {xs : List α}
theorem Acc.nil (E : Enc α) (base : Nat) (e : TypeId) (X : Nat → Prop) (w : World) : Acc E base e X w (.slice none 0 0) [] := ⟨by simp [Value.ownBlock], [], rfl, fun i h => absurd h (by simp), World.ownsRow_nil _ _ _ _⟩
theorem Acc.keep (h : Acc E base e X w v xs) {row : Option Nat} (hg : w.grownBy w' row) (hX : ∀ g, X g → some g ≠ row) : Acc E base e X w' v xs := by
  obtain ⟨hb, css, h1, h2, h3⟩ := h
  refine ⟨hb, css, h1, fun i hi hi' => E.keep (h2 i hi hi') hg fun g hg => hX g hg.1, h3.kept hg ?_⟩
  rcases hv : v.ownBlock with _ | g
  · exact .inl rfl
  · exact .inr (hX g (hb g hv))
theorem Acc.keepc (h : Acc E base e X w v xs) {row : Option Nat} (hg : w.grownBy w' row) (hr : ∀ r, row = some r → ∃ o : Obj, w.heap[r]? = some o ∧ o.isCells = false) : Acc E base e X w' v xs := by
  obtain ⟨hb, css, h1, h2, h3⟩ := h
  refine ⟨hb, css, h1, fun i hi hi' => E.keepc (h2 i hi hi') hg hr, h3.kept hg ?_⟩
  rcases h3.2 with ⟨rfl, _⟩ | ⟨g, cap, cur, rfl, _, hh, _⟩
  · exact .inl rfl
  · refine .inr fun hr' => ?_
    obtain ⟨ob, ho, hn⟩ := hr g hr'.symm
    rw [hh] at ho
    injection ho with ho
    subst ho
    cases hn
theorem Acc.kept (h : Acc E base e X w v xs) (hg : w.grownBy w' none) : Acc E base e X w' v xs := h.keep hg (by simp)
theorem Acc.more (h : Acc E base e X w v xs) (hX : ∀ g, g < w.heap.size → X g → Y g) : Acc E base e Y w v xs := by
  obtain ⟨hb, css, h1, h2, h3⟩ := h
  exact ⟨fun g hv => hX g (h3.lt g hv).2 (hb g hv), css, h1, fun i hi hi' => E.more (h2 i hi hi') fun g hl hg => ⟨hX g hl hg.1, hg.2⟩, h3⟩
theorem Acc.sl (h : Acc E base e X w v xs) : Sl E X w v xs := by
  obtain ⟨hb, css, h1, h2, h3⟩ := h
  have hlen : ∀ i (h : i < css.length), css[i].length = E.size := fun i h => E.len (h2 i (by omega) h)
  rcases h3.2 with ⟨hv, h0⟩ | ⟨g, cap, cur, hv, _, hh, hnc, hcm, _, hx⟩
  · refine ⟨none, 0, by rw [hv, h0], by omega, by omega, fun hn => absurd (List.eq_nil_of_length_eq_zero h0) hn⟩
  · refine ⟨some ⟨g, 0, none⟩, cap, hv, hnc, hcm, fun _ => ⟨g, 0, rfl, (h3.lt g (by rw [hv]; rfl)).2, hb g (by rw [hv]; rfl), fun i hi => ?_⟩⟩
    refine ⟨css[i]'(by omega), E.more (h2 i hi (by omega)) fun g _ hg => hg.1, fun j u hu => ?_⟩
    have hf := flatten_at hlen (i := i) (by omega) hu
    rw [Nat.zero_add, cell_of_row w g _ cur e (0, 0) hh, ← Array.getElem?_toList]
    rw [← hx, List.getElem?_take] at hf
    split at hf
    · exact hf
    · cases hf
theorem Acc.own (h : Acc E base e X w v xs) : ∃ cs, cs.length = xs.length * E.size ∧ w.ownsRow base e E.size v xs.length cs := by
  obtain ⟨_, css, _, _, h3⟩ := h
  exact ⟨_, h3.1, h3⟩
theorem Acc.lt (h : Acc E base e X w v xs) : ∀ g, v.ownBlock = some g → base ≤ g ∧ g < w.heap.size := by
  obtain ⟨_, css, _, _, h3⟩ := h
  exact h3.lt
/-- One thing more. -/
theorem Acc.snoc (h : Acc E base e X w v xs) {x : α} {cs : List Value} {v' : Value} {Z : Nat → Prop} (hx : E.rep Z w cs x) (hZ : ∀ g, g < w.heap.size → Z g → X g ∧ some g ≠ v.ownBlock)
    (hown : ∀ css, w.ownsRow base e E.size v xs.length css → w'.ownsRow base e E.size v' (xs.length + 1) (css ++ cs)) (hg : w.grownBy w' v.ownBlock) (hat : v'.ownBlock = v.ownBlock ∨ ∃ n, w.heap.size ≤ n ∧ v'.ownBlock = some n)
    (hN : ∀ g, w.heap.size ≤ g → X g) : Acc E base e X w' v' (xs ++ [x]) := by
  obtain ⟨hb, css, h1, h2, h3⟩ := h
  have lift : ∀ {cs' : List Value} {y : α}, E.rep (fun g => X g ∧ some g ≠ v.ownBlock) w cs' y → E.rep (fun g => X g ∧ some g ≠ v'.ownBlock) w' cs' y := fun hr => by
    have a1 := E.more (Y := fun g => g < w.heap.size ∧ X g ∧ some g ≠ v.ownBlock) hr fun g hl hg => ⟨hl, hg⟩
    have a2 := E.keep a1 hg fun g hg => hg.2.2
    refine E.more a2 fun g _ hg => ⟨hg.2.1, ?_⟩
    rcases hat with hat | ⟨n, hn, hat⟩ <;> rw [hat]
    · exact hg.2.2
    · intro he
      injection he with he
      have := hg.1
      omega
  refine ⟨fun g hv => ?_, css ++ [cs], by simp [h1], fun i hi hi' => ?_, ?_⟩
  · rcases hat with hat | ⟨n, hn, hat⟩ <;> rw [hat] at hv
    · exact hb g hv
    · injection hv with hv; subst hv; exact hN _ hn
  · refine lift ?_
    rcases Nat.lt_or_ge i css.length with hlt | hge
    · have e1 : (css ++ [cs])[i] = css[i] := List.getElem_append_left hlt
      have e2 : (xs ++ [x])[i] = xs[i]'(by omega) := List.getElem_append_left (by omega)
      rw [e1, e2]
      exact h2 i (by omega) hlt
    · have hi2 : i = css.length := by simp at hi'; omega
      subst hi2
      have e1 : (css ++ [cs])[css.length] = cs := by simp
      have e2 : (xs ++ [x])[css.length]'hi = x := by simp [h1]
      rw [e1, e2]
      exact E.more hx hZ
  · have := hown _ h3
    simpa using this
end
end Go.Proofs.YtnjbigbiclfcoaaDoor
