/- Dealings as data; a region that calls, lays a block and stores, in which a slice made ahead is handed to the call. The plain law of ShareFits: what shares come to fits what their commitments come to. pedersen.RowComs, Fits, slices.Equal of numbers, walked. The plain law of ShareFits, whole. The plain law of weights at 0: two or three points tell a polynomial's first number. consistorylaw20.some, walked; three lists side by side. The plain law of ShareWhole: the shares of T + 1 members come to the secrets, and these are the model's. What rows and columns of a matrix tell at places: the same, whichever comes first. No group is wanted. pedersen.Square and Bonded, walked (printed by mk_square.py). The commitments to rows and columns: plain arithmetic. The plain law of DealModel: what each member is dealt fits the commitments. deal.At, walked (printed by mk_dealf.py). The plain law of DealMeets: rows and columns of squares fit their matrix, and meet. The plain law of ShareHanded: what new members got of T + 1 dealers comes to shares of the same secrets. deal.Model, walked (printed by mk_dealm.py). consistorylaw20.model, walked (printed by mk_whob.py). -/
import Derived.Test.YtiimippmihkgcaaGreatDoorZ5
import Derived.Deep.RegionHeld3
import Derived.Deep.DeepCutAuto
import Derived.IntWalk
namespace Go.Proofs.YtiimippmihkgcaaGreatDoor
open Go Go.RowKit Go.Shelf

/-- A dealing: the matrix, the rows, the columns. -/
abbrev DD : Type := List (List (List Int)) × List (List (List (Int × Int))) × List (List (List (Int × Int)))
def encG : Enc DD where
  size := 3
  pos := by decide
  rep := fun X w cs d => ∃ a b c, cs = [a, b, c] ∧ Sl (encS (encS encU)) X w a d.1 ∧ Sl (encS (encS encP)) X w b d.2.1 ∧ Sl (encS (encS encP)) X w c d.2.2
  len := fun h => by obtain ⟨a, b, c, rfl, _⟩ := h; rfl
  ones := fun h u hu => by
    obtain ⟨a, b, c, rfl, h1, h2, h3⟩ := h
    obtain ⟨_, _, _, rfl⟩ := h1.shape
    obtain ⟨_, _, _, rfl⟩ := h2.shape
    obtain ⟨_, _, _, rfl⟩ := h3.shape
    simp at hu
    rcases hu with rfl | rfl | rfl <;> rfl
  keep := fun h hg hX => by obtain ⟨a, b, c, e, h1, h2, h3⟩ := h; exact ⟨a, b, c, e, h1.keep hg hX, h2.keep hg hX, h3.keep hg hX⟩
  more := fun h hX => by obtain ⟨a, b, c, e, h1, h2, h3⟩ := h; exact ⟨a, b, c, e, h1.more hX, h2.more hX, h3.more hX⟩
  keepc := fun h hg hr => by obtain ⟨a, b, c, e, h1, h2, h3⟩ := h; exact ⟨a, b, c, e, h1.keepc hg hr, h2.keepc hg hr, h3.keepc hg hr⟩
theorem Sl.atG {X : Nat → Prop} {w : World} {v : Value} {xs : List DD} (h : Sl encG X w v xs) {k : Nat} (hk : k < xs.length) :
    ∃ g o c a b d, v = .slice (some ⟨g, o, none⟩) xs.length c ∧ g < w.heap.size ∧ X g ∧ w.cell? ⟨g, o + k * 3, none⟩ = some a ∧ w.cell? ⟨g, o + k * 3 + 1, none⟩ = some b ∧ w.cell? ⟨g, o + k * 3 + 2, none⟩ = some d ∧ Sl (encS (encS encU)) X w a xs[k].1 ∧ Sl (encS (encS encP)) X w b xs[k].2.1 ∧ Sl (encS (encS encP)) X w d xs[k].2.2 := by
  obtain ⟨g, o, c, cs, e, hg, hX, ⟨a, b, d, rfl, h1, h2, h3⟩, hc⟩ := h.at hk
  exact ⟨g, o, c, a, b, d, e, hg, hX, hc 0 _ rfl, hc 1 _ rfl, hc 2 _ rfl, h1, h2, h3⟩
theorem info_dealing : (Tryz.prog.info? 48).map (fun i => (i.zero, i.size, i.bytes)) = some (some (.agg #[.slice none 0 0, .slice none 0 0, .slice none 0 0]), 3, 72) := by kernel_rfl
theorem el_dealing : ElemOk Tryz.prog 44 48 3 72 := ElemOk.mk' (by decide) Tryz.underlying44 info_dealing rfl
theorem info_dealtH : (Tryz.prog.info? 54).map (fun i => (i.zero, i.size, i.bytes)) = some (some (.agg #[.int .i64 0, .slice none 0 0]), 2, 32) := by kernel_rfl
theorem el_dealtH : ElemOk Tryz.prog 43 54 2 32 := ElemOk.mk' (by decide) Tryz.underlying43 info_dealtH rfl
theorem tup3 {a b c x y z : Value} (h : Value.tuple #[a, b, c] = .tuple #[x, y, z]) : a = x ∧ b = y ∧ c = z := by
  injection h with h
  injection h with h
  injection h with h1 h
  injection h with h2 h
  injection h with h3 _
  exact ⟨h1, h2, h3⟩
/-- A dealing's three lists; none of them is empty. -/
def DL (W : World) (N : Nat) (a b c : Value) (d : DD) : Prop := Sl (encS (encS encU)) (fun g => N ≤ g) W a d.1 ∧ Sl (encS (encS encP)) (fun g => N ≤ g) W b d.2.1 ∧ Sl (encS (encS encP)) (fun g => N ≤ g) W c d.2.2
theorem DL.kept {W W' : World} {N : Nat} {a b c : Value} {d : DD} (h : DL W N a b c d) (hg : W.grownBy W' none) : DL W' N a b c d := ⟨h.1.kept hg, h.2.1.kept hg, h.2.2.kept hg⟩
structure DGood (d : DD) : Prop where
  m : ∀ x ∈ d.1, x ≠ [] ∧ ∀ y ∈ x, y ≠ [] ∧ ∀ z ∈ y, True
  r : ∀ x ∈ d.2.1, x ≠ [] ∧ ∀ y ∈ x, y ≠ [] ∧ ∀ z ∈ y, True
  c : ∀ x ∈ d.2.2, x ≠ [] ∧ ∀ y ∈ x, y ≠ [] ∧ ∀ z ∈ y, True
theorem sl_stored {α : Type} {E : Enc α} {good : α → Prop} (hf : Far E good (.slice none 0 0)) {X : Nat → Prop} {W W' : World} {v : Value} {xs : List α} {g : Nat} {ty : TypeId} (h : Sl E X W v xs) (hgd : ∀ x ∈ xs, good x) (hb : Bk W g ty #[.slice none 0 0, .slice none 0 0, .slice none 0 0]) (hg : W.grownBy W' (some g)) : Sl E X W' v xs :=
  ((hf.sl (nil_cells hb) h hgd).keep hg (fun b hb e => hb.2 (by injection e))).more fun _ _ hb => hb.1
theorem DL.stored {W W' : World} {N : Nat} {a b c : Value} {d : DD} {g : Nat} {ty : TypeId} (h : DL W N a b c d) (hd : DGood d) (hb : Bk W g ty #[.slice none 0 0, .slice none 0 0, .slice none 0 0]) (hg : W.grownBy W' (some g)) : DL W' N a b c d :=
  ⟨sl_stored (farS (farS (farU none 0 0))) h.1 hd.m hb hg, sl_stored (farS (farS (farP none 0 0))) h.2.1 hd.r hb hg, sl_stored (farS (farS (farP none 0 0))) h.2.2 hd.c hb hg⟩
def hE0 (v x : Value) : Prop := ∃ b, x = .tuple #[v, b, .int .i64 0]
def hE1 (v x : Value) : Prop := ∃ a, x = .tuple #[a, v, .int .i64 0]
def hF0 (v x : Value) : Prop := x = .tuple #[v, .int .i64 0]
theorem hF0_eq {v u : Value} (h : hF0 v (.tuple #[u, .int .i64 0])) : v = u := by
  unfold hF0 at h
  injection h with h
  injection h with h
  injection h with h _
  exact h.symm
/-- The tape, some draws made. -/
def TapeIn (p : Par) (seed : Int) (gt k : Nat) (W : World) : Prop := Bk W gt 82 #[.int .u64 (seedS p.Q seed k), .slice none 0 0, .int .i64 k]
def hTold5 (p : Par) (N gt : Nat) (seed : Int) (k : Nat) (SH : List (List (Int × Int))) (CM : List (List Int)) (x : Value) (W : World) : Prop := ∃ a b, x = .tuple #[a, b, .int .i64 0] ∧ Sl (encS encP) (fun k => N ≤ k) W a SH ∧ Sl (encS encU) (fun k => N ≤ k) W b CM ∧ TapeIn p seed gt k W
theorem hOk5 (p : Par) (D : World) (gt : Nat) (hgt : gt < D.heap.size) (seed : Int) (k : Nat) (SH : List (List (Int × Int))) (CM : List (List Int)) : CallOk D (some gt) (TapeIn p seed gt 0) (hTold5 p D.heap.size gt seed k SH CM) where
  row := fun r e => by injection e with e; omega
  pre := fun h hg => h.grown hg (by simp)
  told := fun ⟨a, b, e, h1, h2, h3⟩ hg => ⟨a, b, e, h1.kept hg, h2.kept hg, h3.grown hg (by simp)⟩
def hTold14 (p : Par) (N gt : Nat) (seed : Int) (k : Nat) (d : DD) (x : Value) (cs : Array Value) (W : World) : Prop := ∃ a b c, x = .tuple #[.agg #[a, b, c], .int .i64 0] ∧ cs = #[a, b, c] ∧ DL W N a b c d ∧ TapeIn p seed gt k W
theorem hOk14 (p : Par) (D : World) (gt : Nat) (hgt : gt < D.heap.size) (seed : Int) (k k' : Nat) {d : DD} (hd : DGood d) : BoxOk D (some gt) 48 #[.slice none 0 0, .slice none 0 0, .slice none 0 0] (TapeIn p seed gt k) (hTold14 p D.heap.size gt seed k' d) where
  row := fun r e => by injection e with e; omega
  pre := fun h hg => h.grown hg (by simp)
  told := fun ⟨a, b, c, e, e2, h, h2⟩ hg => ⟨a, b, c, e, e2, h.kept hg, h2.grown hg (by simp)⟩
  store := fun ⟨a, b, c, e, e2, h, h2⟩ hb hl hg => ⟨a, b, c, e, e2, h.stored hd hb hg, h2.grown hg (fun e => by injection e with e; omega)⟩
/-- A slice of one thing dealt, in a block of its own. -/
def blkD (N : Nat) (a : Int) (C : List (List Int)) : Pv := ⟨fun v W => ∃ A n c b, v = .slice (some ⟨b, 0, none⟩) 1 1 ∧ Bk W b 54 #[.int .i64 a, .slice A n c] ∧ Sl (encS encU) (fun g => N ≤ g) W (.slice A n c) C, fun ⟨A, n, c, b, e, h1, h2⟩ hg => ⟨A, n, c, b, e, h1.grown hg (by simp), h2.kept hg⟩⟩
def aggD (N : Nat) (a : Int) (C : List (List Int)) : Pv := ⟨fun v W => ∃ A n c, v = .agg #[.int .i64 a, .slice A n c] ∧ Sl (encS encU) (fun g => N ≤ g) W (.slice A n c) C, fun ⟨A, n, c, e, h2⟩ hg => ⟨A, n, c, e, h2.kept hg⟩⟩
def slC (N : Nat) (C : List (List Int)) : Pv := ⟨fun v W => Sl (encS encU) (fun g => N ≤ g) W v C, fun h hg => h.kept hg⟩
end Go.Proofs.YtiimippmihkgcaaGreatDoor

namespace Go.Proofs.YtiimippmihkgcaaGreatDoor

/-- The value of a polynomial at i. -/
def evZ (i : Int) : List Int → Int
  | [] => 0
  | x :: l => x + i * evZ i l
theorem valGo_ev {Q i : Int} (hQ : mayB Q = true) : ∀ (l : List (Int × Int)) (v : Int × Int) (e : Int), 0 ≤ v.1 → v.1 < Q → 0 ≤ v.2 → v.2 < Q → valGo Q i l v e = ((v.1 + e * evZ i (l.map (·.1))) % Q, (v.2 + e * evZ i (l.map (·.2))) % Q)
  | [], v, e, h1, h2, h3, h4 => by
    show v = ((v.1 + e * 0) % Q, (v.2 + e * 0) % Q)
    rw [Int.mul_zero, Int.add_zero, Int.add_zero, Int.emod_eq_of_lt h1 h2, Int.emod_eq_of_lt h3 h4]
  | y :: l, v, e, _, _, _, _ => by
    show valGo Q i l (addI v.1 (mulI y.1 e Q) Q, addI v.2 (mulI y.2 e Q) Q) (mulI e i Q) = ((v.1 + e * (y.1 + i * evZ i (l.map (·.1)))) % Q, (v.2 + e * (y.2 + i * evZ i (l.map (·.2)))) % Q)
    rw [valGo_ev hQ l _ _ (addI_bd _ _ _ hQ).1 (addI_bd _ _ _ hQ).2 (addI_bd _ _ _ hQ).1 (addI_bd _ _ _ hQ).2]
    have key : ∀ (s z d : Int), (addI s (mulI z e Q) Q + mulI e i Q * d) % Q = (s + e * (z + i * d)) % Q := fun s z d => by
      rw [addI_yes _ _ _ hQ, mulI_yes _ _ _ hQ, mulI_yes _ _ _ hQ]
      have h1 : Cg Q ((s + z * e % Q) % Q + e * i % Q * d) (s + e * (z + i * d)) := by
        refine (Cg.add ((Cg.mod Q _).trans (Cg.add (Cg.refl Q s) (Cg.mod Q _))) ((Cg.mod Q _).mul_right d)).trans (Cg.of_eq ?_)
        rw [Int.mul_add, Int.mul_comm z e, Int.mul_assoc, Int.add_assoc]
      exact h1
    rw [key, key]
theorem dotZ_lin {α : Type} (i : Int) (f g : α → Int) : ∀ (M : List α) (ks : List Int), dotZ (M.map fun r => f r + i * g r) ks = dotZ (M.map f) ks + i * dotZ (M.map g) ks
  | [], _ => by simp [dotZ]
  | _ :: _, [] => by simp [dotZ]
  | r :: M, k :: ks => by
    show (f r + i * g r) * k + dotZ (M.map fun r => f r + i * g r) ks = f r * k + dotZ (M.map f) ks + i * (g r * k + dotZ (M.map g) ks)
    rw [dotZ_lin i f g M ks, Int.add_mul, Int.mul_add, Int.mul_assoc]
    omega
theorem dotZ_zero {α : Type} : ∀ (M : List α) (ks : List Int), dotZ (M.map fun _ => (0 : Int)) ks = 0
  | [], _ => by simp [dotZ]
  | _ :: _, [] => by simp [dotZ]
  | r :: M, k :: ks => by
    show 0 * k + dotZ (M.map fun _ => (0 : Int)) ks = 0
    rw [dotZ_zero M ks]
    omega
theorem dotZ_cg {α : Type} {Q : Int} (f g : α → Int) (h : ∀ r, Cg Q (f r) (g r)) : ∀ (M : List α) (ks : List Int), Cg Q (dotZ (M.map f) ks) (dotZ (M.map g) ks)
  | [], _ => Cg.refl _ _
  | _ :: _, [] => Cg.refl _ _
  | r :: M, k :: ks => ((h r).mul_right k).add (dotZ_cg f g h M ks)
theorem evZ_cg {Q i : Int} {α : Type} (f g : α → Int) (h : ∀ r, Cg Q (f r) (g r)) : ∀ M : List α, Cg Q (evZ i (M.map f)) (evZ i (M.map g))
  | [] => Cg.refl _ _
  | r :: M => (h r).add ((evZ_cg f g h M).mul_left i)
/-- A sum of polynomials' values is the value of their sum. -/
theorem lin (i : Int) : ∀ (t : Nat) (M : List (List Int)) (ks : List Int), (∀ r ∈ M, r.length = t) → dotZ (M.map (evZ i)) ks = evZ i ((List.range t).map fun j => dotZ (M.map fun r => r[j]?.getD 0) ks)
  | 0, M, ks, h => by
    have e : M.map (evZ i) = M.map fun _ => (0 : Int) := List.map_congr_left fun r hr => by
      have := List.eq_nil_of_length_eq_zero (h r hr)
      subst this
      rfl
    rw [e, dotZ_zero]
    rfl
  | t + 1, M, ks, h => by
    have e1 : M.map (evZ i) = M.map fun r => r[0]?.getD 0 + i * evZ i r.tail := List.map_congr_left fun r hr => by
      cases r with
      | nil => have := h _ hr; simp at this
      | cons x r => rfl
    have e2 : (M.map fun r => evZ i r.tail) = (M.map List.tail).map (evZ i) := by rw [List.map_map]; rfl
    have e3 : ∀ j : Nat, (M.map fun r => r[j + 1]?.getD 0) = (M.map List.tail).map fun r => r[j]?.getD 0 := fun j => by
      rw [List.map_map]
      refine List.map_congr_left fun r hr => ?_
      cases r with
      | nil => have := h _ hr; simp at this
      | cons x r => rfl
    rw [List.range_succ_eq_map, List.map_cons, List.map_map, e1, dotZ_lin i (fun r : List Int => r[0]?.getD 0) (fun r => evZ i r.tail), e2, lin i t (M.map List.tail) ks (fun r hr => by
      obtain ⟨r', hr', rfl⟩ := List.mem_map.1 hr
      have := h r' hr'
      simp
      omega)]
    show _ = dotZ (M.map fun r => r[0]?.getD 0) ks + i * evZ i ((List.range t).map ((fun j => dotZ (M.map fun r => r[j]?.getD 0) ks) ∘ Nat.succ))
    congr 2
    congr 1
    refine List.map_congr_left fun j _ => ?_
    show _ = dotZ (M.map fun r => r[j + 1]?.getD 0) ks
    rw [e3]
/-- What commitments come to. -/
theorem come_commits {p : Par} (h : Good p) : ∀ (l : List (Int × Int)) (ks : List Int) (a : Int × Int), (∀ y ∈ l, 0 ≤ y.1 ∧ 0 ≤ y.2) → (∀ k ∈ ks, 0 ≤ k) → 0 ≤ a.1 → 0 ≤ a.2 → comeU p.P (l.map (commitI p)) ks (commitI p a) = commitI p (comeP p.Q l ks a)
  | [], _, _, _, _, _, _ => by simp [comeU, comeP]
  | _ :: _, [], _, _, _, _, _ => by simp [comeU, comeP]
  | y :: l, k :: ks, a, hl, hk, a1, a2 => by
    obtain ⟨y1, y2⟩ := hl y (by simp)
    have k0 := hk k (by simp)
    have m1 := (mulI_bd y.1 k p.Q h.Q).1
    have m2 := (mulI_bd y.2 k p.Q h.Q).1
    show comeU p.P (l.map (commitI p)) ks (timesI p.P [commitI p a, powI (commitI p y) k p.P]) = commitI p (comeP p.Q l ks (addI a.1 (mulI y.1 k p.Q) p.Q, addI a.2 (mulI y.2 k p.Q) p.Q))
    rw [sums_2 h y k y1 y2 k0, sums_1 h a (mulI y.1 k p.Q, mulI y.2 k p.Q) a1 a2 m1 m2]
    exact come_commits h l ks _ (fun z hz => hl z (List.mem_cons_of_mem _ hz)) (fun z hz => hk z (List.mem_cons_of_mem _ hz)) (addI_bd _ _ _ h.Q).1 (addI_bd _ _ _ h.Q).1
/-- One secret: the pair that shares come to, and the numbers that commitments come to. -/
theorem fit_one {p : Par} (h : Good p) {i : Int} (hi : 0 ≤ i) {t : Nat} {M : List (List (Int × Int))} {ks : List Int} (hM : ∀ l ∈ M, l.length = t ∧ ∀ y ∈ l, 0 ≤ y.1 ∧ 0 ≤ y.2) (hk : ∀ k ∈ ks, 0 ≤ k) (hlen : M.length = ks.length) :
    atI p ((List.range t).map fun j => comeU p.P (M.map fun l => commitI p (l[j]?.getD (0, 0))) ks (timesI p.P [])) i = commitI p (comeP p.Q (M.map fun l => valGo p.Q i l (0, 0) 1) ks (0, 0)) := by
  have h0 := mayB_pos h.Q
  have e1 : ((List.range t).map fun j => comeU p.P (M.map fun l => commitI p (l[j]?.getD (0, 0))) ks (timesI p.P [])) = ((List.range t).map fun j => comeP p.Q (M.map fun l => l[j]?.getD (0, 0)) ks (0, 0)).map (commitI p) := by
    rw [List.map_map]
    refine List.map_congr_left fun j hj => ?_
    show _ = commitI p (comeP p.Q (M.map fun l => l[j]?.getD (0, 0)) ks (0, 0))
    rw [← come_commits h _ ks (0, 0) (fun y hy => by
      obtain ⟨l, hl, rfl⟩ := List.mem_map.1 hy
      have hj' := List.mem_range.1 hj
      have hj2 : j < l.length := by rw [(hM l hl).1]; exact hj'
      rw [List.getElem?_eq_getElem hj2]
      exact (hM l hl).2 _ (List.getElem_mem hj2)) hk (Int.le_refl 0) (Int.le_refl 0), commit_zero h, List.map_map]
    rfl
  have e2 : ∀ (l : List (List (Int × Int))) (f : List (Int × Int) → Int × Int), l.length = ks.length → comeP p.Q (l.map f) ks (0, 0) = (dotZ (l.map fun x => (f x).1) ks % p.Q, dotZ (l.map fun x => (f x).2) ks % p.Q) := fun l f hl => by
    rw [comeP_eq p.Q h.Q _ ks (0, 0) (by simpa using hl) (Int.le_refl 0) h0 (Int.le_refl 0) h0, List.map_map, List.map_map, Int.zero_add, Int.zero_add]
    rfl
  rw [e1, at_commits h i hi _ (fun y hy => by
    obtain ⟨j, _, rfl⟩ := List.mem_map.1 hy
    rw [e2 M _ hlen]
    exact ⟨Int.emod_nonneg _ (by omega), Int.emod_nonneg _ (by omega)⟩)]
  congr 1
  rw [valGo_ev h.Q _ (0, 0) 1 (Int.le_refl 0) h0 (Int.le_refl 0) h0, e2 M _ hlen, List.map_map, List.map_map, Int.zero_add, Int.one_mul, Int.zero_add, Int.one_mul]
  have half : ∀ (g : Int × Int → Int) (hg : g (0, 0) = 0) (f : List (Int × Int) → Int) (hf : ∀ l, Cg p.Q (f l) (evZ i (l.map g))) (c : Nat → Int) (hc : ∀ j, Cg p.Q (c j) (dotZ (M.map fun l => g (l[j]?.getD (0, 0))) ks)), evZ i ((List.range t).map c) % p.Q = dotZ (M.map f) ks % p.Q := fun g hg f hf c hc => by
    have a1 : Cg p.Q (evZ i ((List.range t).map c)) (evZ i ((List.range t).map fun j => dotZ (M.map fun l => g (l[j]?.getD (0, 0))) ks)) := evZ_cg c _ hc _
    have a2 : Cg p.Q (dotZ (M.map f) ks) (dotZ (M.map fun l => evZ i (l.map g)) ks) := dotZ_cg f _ hf M ks
    have a3 := lin i t (M.map fun l => l.map g) ks (fun r hr => by
      obtain ⟨l, hl, rfl⟩ := List.mem_map.1 hr
      rw [List.length_map]
      exact (hM l hl).1)
    rw [List.map_map] at a3
    have a4 : ((List.range t).map fun j => dotZ ((M.map fun l => l.map g).map fun r => r[j]?.getD 0) ks) = (List.range t).map fun j => dotZ (M.map fun l => g (l[j]?.getD (0, 0))) ks := List.map_congr_left fun j _ => by
      rw [List.map_map]
      congr 1
      refine List.map_congr_left fun l _ => ?_
      show ((l.map g)[j]?).getD 0 = g (l[j]?.getD (0, 0))
      rw [List.getElem?_map]
      cases l[j]? with
      | none => exact hg.symm
      | some y => rfl
    rw [a4] at a3
    exact a1.trans ((Cg.of_eq a3.symm).trans a2.symm)
  have v1 : ∀ l : List (Int × Int), Cg p.Q (valGo p.Q i l (0, 0) 1).1 (evZ i (l.map (·.1))) := fun l => by
    rw [valGo_ev h.Q l (0, 0) 1 (Int.le_refl 0) h0 (Int.le_refl 0) h0, Int.zero_add, Int.one_mul]
    exact Cg.mod _ _
  have v2 : ∀ l : List (Int × Int), Cg p.Q (valGo p.Q i l (0, 0) 1).2 (evZ i (l.map (·.2))) := fun l => by
    rw [valGo_ev h.Q l (0, 0) 1 (Int.le_refl 0) h0 (Int.le_refl 0) h0, Int.zero_add, Int.zero_add, Int.one_mul, Int.one_mul]
    exact Cg.mod _ _
  refine Prod.ext ?_ ?_
  · exact half (·.1) rfl _ v1 _ (fun j => by
      show Cg p.Q (comeP p.Q (M.map fun l => l[j]?.getD (0, 0)) ks (0, 0)).1 _
      rw [e2 M _ hlen]
      exact Cg.mod _ _)
  · exact half (·.2) rfl _ v2 _ (fun j => by
      show Cg p.Q (comeP p.Q (M.map fun l => l[j]?.getD (0, 0)) ks (0, 0)).2 _
      rw [e2 M _ hlen]
      exact Cg.mod _ _)
end Go.Proofs.YtiimippmihkgcaaGreatDoor

namespace Go.Proofs.YtiimippmihkgcaaGreatDoor
open Go.RowKit

theorem turnedI_length (p : Par) (l : List (List Int)) : (turnedI p l).length = wideI l := by simp [turnedI]
theorem turnedI_cols (p : Par) (l : List (List Int)) : ∀ c ∈ turnedI p l, c.length = l.length := by
  intro c hc
  obtain ⟨j, _, rfl⟩ := List.mem_map.1 hc
  simp [colI]
theorem shareI_length (p : Par) (l : List (List Int)) (x : Int) : (shareI p l x).length = l.length := by simp [shareI]
set_option maxRecDepth 100000 in
set_option maxHeartbeats 400000 in
theorem sequal_any (v1 v2 : Value) (xs ys : List Int) (X Y : Nat → Prop) (w : World) (h1 : Sl encU X w v1 xs) (h2 : Sl encU Y w v2 ys) :
    Calls Tryz.prog 83 #[v1, v2] w fun e w' => e = .returned (.bool (decide (xs = ys))) ∧ w.grownBy w' none := by
  have H1 := Lib.hid h1
  have H2 := Lib.hid h2
  obtain ⟨A1, c1, rfl, hc1, hc2⟩ := h1.form
  obtain ⟨A2, c2, rfl, hc3, hc4⟩ := h2.form
  clear h1 h2
  by_cases hl : xs.length = ys.length
  · have HLN := Lib.hid hl
    have HST : Hid ((∃ n, w = w.drewN n) ∧ xs.take 0 = ys.take 0) := Lib.hid ⟨⟨0, rfl⟩, rfl⟩
    rw [hl] at H1 hc1 ⊢
    clear hl
    go_enter Tryz.func83, Tryz.ntmps83
    go_wp2_with fail
    go_loopg [13] ys.length (fun g s13 wx => ∃ j : Nat, j + g = ys.length ∧ s13 = .int .i64 j ∧ Hid ((∃ n, wx = w.drewN n) ∧ xs.take j = ys.take j))
    case atStart => exact ⟨0, by omega, rfl, HST⟩
    case round =>
      obtain ⟨j, hj, rfl, HX⟩ := hrel
      obtain ⟨⟨n0, rfl⟩, htk⟩ := HX.out
      cases gk with
      | zero =>
        obtain rfl : j = ys.length := by omega
        have HE : Hid (decide (xs = ys) = true) := Lib.hid (by
          rw [List.take_length, ← HLN.out, List.take_length] at htk
          simpa using htk)
        clear HX HST htk
        go_wp2
        go_ret
        exact ⟨ret_bool HE.out.symm, grown_drewN' w _⟩
      | succ m =>
        have hjn : (j : Int) < (ys.length : Int) := by omega
        have hj0 : (0 : Int) ≤ (j : Int) := by omega
        have hjN : j < ys.length := by omega
        have hjX : j < xs.length := by rw [HLN.out]; exact hjN
        obtain ⟨g1, o1, c1', e1, _, _, a1, u1⟩ := (HLN.out ▸ H1.out : Sl encU X w (.slice A1 xs.length c1) xs).atU hjX
        injection e1 with e11 e12 e13
        subst e11 e13
        obtain ⟨g2, o2, c2', e2, _, _, a2, _⟩ := H2.out.atU hjN
        injection e2 with e21 e22 e23
        subst e21 e23
        have HSX := Lib.hid (List.take_succ_eq_append_getElem hjX)
        have HSY := Lib.hid (List.take_succ_eq_append_getElem hjN)
        have HTK := Lib.hid htk
        by_cases hxy : xs[j] = ys[j]
        · have HNX : Hid (xs.take (j + 1) = ys.take (j + 1)) := Lib.hid (by rw [HSX.out, HSY.out, hxy, HTK.out])
          rw [hxy] at a1
          clear HX HST e12 e22 htk hxy HSX HSY
          generalize ys[j] = y at *
          go_wp2_with fail
          go_quiet (fail)
          go_wp2_with fail
          go_roundg m
          case measure => omega
          case rel => exact ⟨j + 1, by omega, by go_num, Lib.hid ⟨⟨_, rfl⟩, HNX.out⟩⟩
        · have HE : Hid (decide (xs = ys) = false) := Lib.hid (by simp only [decide_eq_false_iff_not]; intro e; apply hxy; subst e; rfl)
          have hd : (xs[j] != ys[j]) = true := by simpa using hxy
          clear HX HST e12 e22 htk hxy HSX HSY
          generalize ys[j] = y at *
          generalize xs[j] = x at *
          go_wp2_with fail
          go_quiet (fail)
          go_wp2
          go_ret
          exact ⟨ret_bool HE.out.symm, (grown_drewN' w _).trans (grown_drewN' _ _)⟩
  · have hd : ((xs.length : Int) != (ys.length : Int)) = true := by simp; omega
    have HE : Hid (decide (xs = ys) = false) := Lib.hid (by simp only [decide_eq_false_iff_not]; intro e; exact hl (by rw [e]))
    clear hl
    go_enter Tryz.func83, Tryz.ntmps83
    go_wp2
    go_ret
    exact ⟨ret_bool HE.out.symm, World.grownBy.refl w none⟩
theorem commit_U64' (p : Par) (x : Int × Int) : U64 (commitI p x) := timesI_U64 _ _
def fitsI (p : Par) (coms : List (List Int)) (i : Int) (l : List (Int × Int)) : Bool := decide (l.map (commitI p) = shareI p coms i)
set_option maxRecDepth 100000 in
set_option maxHeartbeats 1000000 in
theorem fits_any (p : Par) (v1 : Value) (coms : List (List Int)) (i : Int) (v2 : Value) (l : List (Int × Int)) (X Y : Nat → Prop) (w : World) (hp : p.ok) (h1 : Sl (encS encU) X w v1 coms) (hi : U64 i) (h2 : Sl encP Y w v2 l) (hb : coms.length ≤ 100000) (hb2 : l.length ≤ 100000) :
    Calls Tryz.prog 17 #[p.v, v1, .int .u64 i, v2] w fun e w' => e = .returned (.bool (fitsI p coms i l)) ∧ w.grownBy w' none := by
  have HP := Lib.hid hp
  have HSH := Lib.hid (fun (w' : World) (hw : w.grownBy w' none) => share_any p v1 coms i X w' (h1.kept hw) hi hb)
  have H := Lib.hid h2
  obtain ⟨A, c, rfl, hc1, hc2⟩ := h2.form
  have HST : Hid (Acc encU w.heap.size 22 (fun g => w.heap.size ≤ g) (w.alloc (Obj.cells p.cells 24)) (.slice none 0 0) ((l.take 0).map (commitI p)) ∧ w.grownBy (w.alloc (Obj.cells p.cells 24)) none ∧ Bk (w.alloc (Obj.cells p.cells 24)) w.heap.size 24 p.cells) := Lib.hid ⟨Acc.nil _ _ _ _ _, World.grownBy_alloc w _ none, Bk.new w _ _⟩
  clear h1 h2 hi hp hb
  go_enter Tryz.func17, Tryz.ntmps17
  go_wp2_with fail
  go_loopg [9, 14] l.length (fun g s9 s14 wx => ∃ j : Nat, j + g = l.length ∧ s14 = .int .i64 j ∧ Hid (Acc encU w.heap.size 22 (fun g => w.heap.size ≤ g) wx s9 ((l.take j).map (commitI p)) ∧ w.grownBy wx none ∧ Bk wx w.heap.size 24 p.cells))
  case atStart => exact ⟨0, by omega, rfl, HST⟩
  case round =>
    obtain ⟨j, hj, rfl, HX⟩ := hrel
    cases gk with
    | zero =>
      obtain rfl : j = l.length := by omega
      have HS9 : Hid (Sl encU (fun g => w.heap.size ≤ g) wr u9 (l.map (commitI p))) := Lib.hid (by have := HX.out.1.sl; rwa [List.take_length] at this)
      have HG := Lib.hid HX.out.2.1
      have hp := HX.out.2.2.prule
      clear HX HST
      go_wp2_with fail
      refine (HSH.out _ HG.out).mono ?_
      rintro e' w1 ⟨u1, rfl, hs1, hg1⟩
      have HEQ := Lib.hid (sequal_any u9 u1 _ _ _ _ w1 (HS9.out.kept hg1) hs1)
      have HG1 := Lib.hid (HG.out.trans hg1)
      clear hs1 hg1 hp
      go_wp2_with fail
      refine HEQ.out.mono ?_
      rintro e' w2 ⟨rfl, hg2⟩
      have HG2 := Lib.hid (HG1.out.trans hg2)
      clear hg2
      go_wp2
      go_ret
      exact ⟨rfl, HG2.out⟩
    | succ m =>
      have hjn : (j : Int) < (l.length : Int) := by omega
      have hjN : j < l.length := by omega
      obtain ⟨hacc, hg, hbp⟩ := HX.out
      obtain ⟨g, o, c', e, hgl, _, hcu1, hcu2, hu1, hu2⟩ := (H.out.kept hg).atP hjN
      injection e with e1 e2 e3
      subst e1 e3
      have HSN := Lib.hid (map_take_snoc' (commitI p) l j hjN)
      have HU := Lib.hid (commit_U64' p l[j])
      have HF := Lib.hid (fun (w' : World) => commit_any p l[j] w' HP.out hu1 hu2)
      generalize hy : l[j] = y at HSN HU HF hcu1 hcu2 hu1 hu2
      clear hy
      have HG1 : Hid (wr.grownBy (wr.alloc (Obj.cells #[.int .u64 y.1, .int .u64 y.2] 70)) none) := Lib.hid (World.grownBy_alloc wr _ none)
      have HAC := Lib.hid (hacc.kept HG1.out)
      have HG := Lib.hid (hg.trans HG1.out)
      have HBp := Lib.hid (hbp.grown HG1.out (by simp))
      have hp := hbp.prule
      have hlp := hbp.lt
      have HLB : Hid ((((l.take j).map (commitI p)).length + 1) * 8 ≤ 140737488355328) := Lib.hid (by simp; omega)
      clear hacc hg hbp e2 HX HST hu1 hu2
      go_wp2_with fail
      refine (HF.out _).mono ?_
      rintro e' w1 ⟨rfl, hg1⟩
      have HG2 := Lib.hid (HG.out.trans hg1)
      have HA1 := Lib.hid (HAC.out.kept hg1)
      have HBp1 := Lib.hid (HBp.out.grown hg1 (by simp))
      clear hg1 hp
      go_wp2_with (at_builtin; refine wpList_pushG rfl (.tmp 18) (.tmp 22) rfl (E := encU) el_u64 HG2.out HA1.out (fun _ h => h) ⟨rfl, HU.out⟩ HLB.out rfl rfl ?_)
      intro v2 w2 hacc2 hg2 hgo
      have HFIN : Hid (Acc encU w.heap.size 22 (fun g => w.heap.size ≤ g) w2 v2 ((l.take (j + 1)).map (commitI p)) ∧ w.grownBy w2 none ∧ Bk w2 w.heap.size 24 p.cells) := Lib.hid ⟨by rw [HSN.out]; simpa using hacc2, hg2, HBp1.out.grown hgo (fun e => HA1.out.ne_bk HBp1.out (by decide) e.symm)⟩
      clear hacc2 hg2 hgo
      go_wp2_with fail
      go_roundg m
      case measure => omega
      case rel => exact ⟨j + 1, by omega, by go_num, HFIN⟩
end Go.Proofs.YtiimippmihkgcaaGreatDoor

namespace Go.Proofs.YtiimippmihkgcaaGreatDoor
open Go Go.RowKit

theorem is_commit' {p : Par} (h : Good p) (x : Int × Int) (_ : 0 ≤ x.1) (_ : 0 ≤ x.2) : isB p (commitI p x) = true := by
  have hP := may_bds h.P
  have hP2 := h.P2
  have e := commit_eq p x h.P
  have h0 : 0 ≤ commitI p x := by rw [e]; exact Int.emod_nonneg _ (by omega)
  have h1 : commitI p x < p.P := by rw [e]; exact Int.emod_lt_of_pos _ (by omega)
  have hc : Cg p.P (commitI p x ^ p.Q.toNat) 1 := by
    refine ((commit_cg p x h.P).pow _).trans ?_
    rw [Int.mul_pow, ← Int.pow_mul, ← Int.pow_mul, Nat.mul_comm x.1.toNat, Nat.mul_comm x.2.toNat, Int.pow_mul, Int.pow_mul]
    exact ((h.G.pow _).mul (h.H.pow _)).trans (Cg.of_eq (by rw [Int.one_pow, Int.one_pow]; rfl))
  have hp : powI (commitI p x) p.Q p.P = 1 := by
    rw [powI_yes _ _ _ h.P]
    unfold Cg at hc
    rw [hc, Int.emod_eq_of_lt (by decide) (by omega)]
  have hne : commitI p x ≠ 0 := by
    intro e0
    rw [e0] at hc
    have hQ : p.Q.toNat ≠ 0 := by have := h.Q2; omega
    rw [Int.zero_pow hQ] at hc
    unfold Cg at hc
    rw [Int.emod_eq_of_lt (a := 1) (by decide) (by omega)] at hc
    simp at hc
  simp only [isB, hp, Bool.and_eq_true, decide_eq_true_eq, beq_self_eq_true, and_true]
  omega
theorem wlist_pos {q : Int} (hq : mayB q = true) (xs : List Int) (at_ : Int) : ∀ k ∈ wList q xs at_, 0 ≤ k := by
  intro k hk
  unfold wList at hk
  split at hk
  · obtain ⟨i, _, rfl⟩ := List.mem_map.1 hk
    exact (mulI_bd _ _ _ hq).1
  · simp at hk
def dealersI (many : Nat) : List Int := (List.range many).map fun k => ((k + 1 : Nat) : Int)
def gotI (p : Par) (i : Int) (poly : Nat → Nat → List (Int × Int)) (nn many : Nat) : List (List (Int × Int)) := (List.range many).map fun k => (List.range nn).map fun s => valGo p.Q i (poly k s) (0, 0) 1
def fitD (p : Par) (poly : Nat → Nat → List (Int × Int)) (nn many : Nat) : List (Int × List (List Int)) := (List.range many).map fun k => (((k + 1 : Nat) : Int), (List.range nn).map fun s => (poly k s).map (commitI p))
theorem fitD_fst (p : Par) (poly : Nat → Nat → List (Int × Int)) (nn many : Nat) : (fitD p poly nn many).map (·.1) = dealersI many := by
  unfold fitD dealersI
  rw [List.map_map]
  rfl
theorem dealers_places {n : Int} {many : Nat} (h : (many : Int) ≤ n) : Places n (dealersI many) := by
  refine ⟨fun x hx => ?_, ?_⟩
  · obtain ⟨k, hk, rfl⟩ := List.mem_map.1 hx
    have := List.mem_range.1 hk
    omega
  · refine List.pairwise_map.2 (List.Pairwise.imp (R := (· < ·)) (fun {a b} hab => ?_) List.pairwise_lt_range)
    intro e
    have : (a : Int) + 1 = (b : Int) + 1 := by simpa using e
    omega
theorem getD_range {α : Type} (f : Nat → α) (d : α) {s n : Nat} (h : s < n) : ((List.range n).map f)[s]?.getD d = f s := by simp [h]
theorem fits_law {p : Par} (hm : mayP p = true) {many nn t : Nat} (h1 : 1 ≤ many) (h2 : (many : Int) ≤ p.N) (hn : (nn : Int) = secretsI p) (ht : (t : Int) = p.T + 1) {i : Int} (hi : 0 ≤ i) {poly : Nat → Nat → List (Int × Int)}
    (hp : ∀ k s, (poly k s).length = t ∧ ∀ y ∈ poly k s, 0 ≤ y.1 ∧ 0 ≤ y.2) :
    sumE p (dealersI many) (gotI p i poly nn many) = 0 ∧ comsE p (fitD p poly nn many) = 0 ∧ formedB p (comsL p (fitD p poly nn many)) = true ∧ fitsI p (comsL p (fitD p poly nn many)) i (sumL p (dealersI many) (gotI p i poly nn many)) = true := by
  have hg := good_of hm
  obtain ⟨hq, hP, ha, n1, n2, n3, t1, t2, t3, hs, k1, d1⟩ := may_apart hm
  have hpl : Places p.N (dealersI many) := dealers_places h2
  have hdl : (dealersI many).length = many := by simp [dealersI]
  have hM : MemOk p (dealersI many) (gotI p i poly nn many) := ⟨hm, hpl, by omega, by rw [hdl]; simp [gotI], fun x hx => by
    obtain ⟨k, _, rfl⟩ := List.mem_map.1 hx
    rw [← hn]
    simp⟩
  have hD : Deals p (fitD p poly nn many) := ⟨hm, by rw [fitD_fst]; exact hpl, by simp [fitD]; omega, fun d hd => by
    obtain ⟨k, _, rfl⟩ := List.mem_map.1 hd
    refine ⟨by rw [← hn]; simp, fun c hc => ?_⟩
    obtain ⟨s, _, rfl⟩ := List.mem_map.1 (show c ∈ (List.range nn).map fun s => (poly k s).map (commitI p) from hc)
    rw [← ht, List.length_map, (hp k s).1]⟩
  have e1 := sum_good hM
  have e2 := coms_good hD
  have hk : ∀ k ∈ wList p.Q (dealersI many) 0, 0 ≤ k := wlist_pos hq _ _
  have hkl : (wList p.Q (dealersI many) 0).length = many := by rw [wlist_length hq ha n3 hpl (by omega) 0, hdl]
  have hc : comsL p (fitD p poly nn many) = (List.range nn).map fun s => (List.range t).map fun j => comeU p.P (((List.range many).map fun k => poly k s).map fun l => commitI p (l[j]?.getD (0, 0))) (wList p.Q (dealersI many) 0) (timesI p.P []) := by
    unfold comsL
    rw [if_pos e2, ← hn, ← ht, Int.toNat_natCast, Int.toNat_natCast, fitD_fst]
    refine List.map_congr_left fun s hs => List.map_congr_left fun j hj => ?_
    congr 1
    unfold fitD
    rw [List.map_map, List.map_map]
    refine List.map_congr_left fun k _ => ?_
    show ((((List.range nn).map fun s => (poly k s).map (commitI p))[s]?.getD [])[j]?).getD 0 = commitI p ((poly k s)[j]?.getD (0, 0))
    have hj' : j < (poly k s).length := by rw [(hp k s).1]; exact List.mem_range.1 hj
    rw [getD_range _ _ (List.mem_range.1 hs), List.getElem?_map, List.getElem?_eq_getElem hj']
    rfl
  have hx : sumL p (dealersI many) (gotI p i poly nn many) = (List.range nn).map fun s => comeP p.Q (((List.range many).map fun k => poly k s).map fun l => valGo p.Q i l (0, 0) 1) (wList p.Q (dealersI many) 0) (0, 0) := by
    unfold sumL
    rw [if_pos e1, ← hn, Int.toNat_natCast]
    refine List.map_congr_left fun s hs => ?_
    congr 1
    unfold gotI
    rw [List.map_map, List.map_map]
    refine List.map_congr_left fun k _ => ?_
    show (((List.range nn).map fun s => valGo p.Q i (poly k s) (0, 0) 1)[s]?).getD (0, 0) = valGo p.Q i (poly k s) (0, 0) 1
    rw [getD_range _ _ (List.mem_range.1 hs)]
  have hMs : ∀ s, ∀ l ∈ (List.range many).map fun k => poly k s, l.length = t ∧ ∀ y ∈ l, 0 ≤ y.1 ∧ 0 ≤ y.2 := fun s l hl => by
    obtain ⟨k, _, rfl⟩ := List.mem_map.1 hl
    exact hp k s
  have h0 := mayB_pos hq
  have hz : ∀ a b : Int, isB p (commitI p (a % p.Q, b % p.Q)) = true := fun a b => is_commit' hg _ (Int.emod_nonneg _ (by omega)) (Int.emod_nonneg _ (by omega))
  refine ⟨e1, e2, ?_, ?_⟩
  · have hw : IntKind.i64.wrap (p.T + 1) = (t : Int) := by rw [← ht]; exact IntWalk.i64_in _ (by omega)
    unfold formedB allB
    rw [hc, hw, ← hn]
    simp only [List.length_map, List.length_range, decide_true, Bool.true_and, Bool.not_eq_true', List.any_eq_false]
    intro r hr
    obtain ⟨s, _, rfl⟩ := List.mem_map.1 hr
    simp only [rowBad, List.length_map, List.length_range, Bool.or_eq_true, decide_eq_true_eq, List.any_eq_true, not_or, not_exists, not_and]
    refine ⟨by simp, fun x hx => ?_⟩
    obtain ⟨j, hj, rfl⟩ := List.mem_map.1 hx
    have hb := List.mem_range.1 hj
    have e3 : ((List.range many).map fun k => poly k s).map (fun l => commitI p (l[j]?.getD (0, 0))) = (((List.range many).map fun k => poly k s).map fun l => l[j]?.getD (0, 0)).map (commitI p) := by
      rw [List.map_map, List.map_map, List.map_map]
      rfl
    have hy : ∀ y ∈ ((List.range many).map fun k => poly k s).map (fun l => l[j]?.getD (0, 0)), 0 ≤ y.1 ∧ 0 ≤ y.2 := fun y hy => by
      obtain ⟨l, hl, rfl⟩ := List.mem_map.1 hy
      have hj2 : j < l.length := by rw [(hMs s l hl).1]; exact hb
      rw [List.getElem?_eq_getElem hj2]
      exact (hMs s l hl).2 _ (List.getElem_mem hj2)
    rw [e3, ← commit_zero hg, come_commits hg _ _ (0, 0) hy hk (Int.le_refl 0) (Int.le_refl 0)]
    rw [comeP_eq p.Q hq _ _ (0, 0) (by simp [hkl]) (Int.le_refl 0) h0 (Int.le_refl 0) h0]
    simp [hz]
  · unfold fitsI shareI
    rw [hc, hx, List.map_map, List.map_map]
    refine decide_eq_true (List.map_congr_left fun s _ => ?_)
    exact (fit_one hg hi (hMs s) hk (by simp [hkl])).symm
end Go.Proofs.YtiimippmihkgcaaGreatDoor

namespace Go.Proofs.YtiimippmihkgcaaGreatDoor

theorem wAt_cg {q : Int} {xs : List Int} {at_ : Int} {i : Nat} (hq : mayB q = true) (h : HasInv (underI q xs at_ i) q) : Cg q (underI q xs at_ i * wAt q xs at_ i) (overI q xs at_ i) := by
  obtain ⟨_, _, h1⟩ := invI_spec h
  refine ((mulI_cg (invI (underI q xs at_ i) q) (overI q xs at_ i) q hq).mul_left _).trans ?_
  rw [← Int.mul_assoc]
  exact (h1.mul_right _).trans (Cg.of_eq (Int.one_mul _))
theorem cg_cancel {q d s a : Int} (h : HasInv d q) (k : Cg q (d * s) (d * a)) : Cg q s a := by
  obtain ⟨x, _, _, hx⟩ := h
  have key : ∀ s : Int, Cg q (x * (d * s)) s := fun s => by
    rw [← Int.mul_assoc, Int.mul_comm x d]
    exact (hx.mul_right s).trans (Cg.of_eq (Int.one_mul s))
  exact (key s).symm.trans ((k.mul_left x).trans (key a))
theorem diff_inv {q n x y : Int} (hq : mayB q = true) (ha : Apart q n) (hx : 1 ≤ x ∧ x ≤ n) (hy : 1 ≤ y ∧ y ≤ n) (hne : x ≠ y) : HasInv (x - y) q := by
  have h0 := mayB_pos hq
  rcases Int.lt_or_gt_of_ne hne with h | h
  · have := hasInv_neg h0 (ha (y - x) (by omega) (by omega))
    rwa [show -(y - x) = x - y by omega] at this
  · exact ha (x - y) (by omega) (by omega)
theorem under2 {q : Int} (hq : mayB q = true) (x y : Int) : Cg q (underI q [x, y] 0 0) (x - y) ∧ Cg q (underI q [x, y] 0 1) (y - x) ∧ Cg q (overI q [x, y] 0 0) (0 - y) ∧ Cg q (overI q [x, y] 0 1) (0 - x) := by
  have one : ∀ a b : Int, Cg q (mulI (1 % q) (subI a b q) q) (a - b) := fun a b => by
    refine (mulI_cg _ _ _ hq).trans (((Cg.mod q 1).mul (subI_cg _ _ _ hq)).trans (Cg.of_eq (Int.one_mul _)))
  have e1 : underI q [x, y] 0 0 = mulI (1 % q) (subI x y q) q := by simp [underI, othersI, othersUp, List.range_succ, prodI]
  have e2 : underI q [x, y] 0 1 = mulI (1 % q) (subI y x q) q := by simp [underI, othersI, othersUp, List.range_succ, prodI]
  have e3 : overI q [x, y] 0 0 = mulI (1 % q) (subI 0 y q) q := by simp [overI, othersI, othersUp, List.range_succ, prodI]
  have e4 : overI q [x, y] 0 1 = mulI (1 % q) (subI 0 x q) q := by simp [overI, othersI, othersUp, List.range_succ, prodI]
  rw [e1, e2, e3, e4]
  exact ⟨one _ _, one _ _, one _ _, one _ _⟩
theorem under3 {q : Int} (hq : mayB q = true) (x y z : Int) :
    Cg q (underI q [x, y, z] 0 0) ((x - y) * (x - z)) ∧ Cg q (underI q [x, y, z] 0 1) ((y - x) * (y - z)) ∧ Cg q (underI q [x, y, z] 0 2) ((z - x) * (z - y)) ∧ Cg q (overI q [x, y, z] 0 0) ((0 - y) * (0 - z)) ∧ Cg q (overI q [x, y, z] 0 1) ((0 - x) * (0 - z)) ∧ Cg q (overI q [x, y, z] 0 2) ((0 - x) * (0 - y)) := by
  have two : ∀ a b c d : Int, Cg q (mulI (mulI (1 % q) (subI a b q) q) (subI c d q) q) ((a - b) * (c - d)) := fun a b c d => by
    refine (mulI_cg _ _ _ hq).trans (Cg.mul ?_ (subI_cg _ _ _ hq))
    exact (mulI_cg _ _ _ hq).trans (((Cg.mod q 1).mul (subI_cg _ _ _ hq)).trans (Cg.of_eq (Int.one_mul _)))
  have e1 : underI q [x, y, z] 0 0 = mulI (mulI (1 % q) (subI x y q) q) (subI x z q) q := by simp [underI, othersI, othersUp, List.range_succ, prodI]
  have e2 : underI q [x, y, z] 0 1 = mulI (mulI (1 % q) (subI y x q) q) (subI y z q) q := by simp [underI, othersI, othersUp, List.range_succ, prodI]
  have e3 : underI q [x, y, z] 0 2 = mulI (mulI (1 % q) (subI z x q) q) (subI z y q) q := by simp [underI, othersI, othersUp, List.range_succ, prodI]
  have e4 : overI q [x, y, z] 0 0 = mulI (mulI (1 % q) (subI 0 y q) q) (subI 0 z q) q := by simp [overI, othersI, othersUp, List.range_succ, prodI]
  have e5 : overI q [x, y, z] 0 1 = mulI (mulI (1 % q) (subI 0 x q) q) (subI 0 z q) q := by simp [overI, othersI, othersUp, List.range_succ, prodI]
  have e6 : overI q [x, y, z] 0 2 = mulI (mulI (1 % q) (subI 0 x q) q) (subI 0 y q) q := by simp [overI, othersI, othersUp, List.range_succ, prodI]
  rw [e1, e2, e3, e4, e5, e6]
  exact ⟨two _ _ _ _, two _ _ _ _, two _ _ _ _, two _ _ _ _, two _ _ _ _, two _ _ _ _⟩
theorem lag2 {q n x y : Int} (hq : mayB q = true) (ha : Apart q n) (hp : Places n [x, y]) (a b : Int) : Cg q ((a + x * (b + x * 0)) * wAt q [x, y] 0 0 + ((a + y * (b + y * 0)) * wAt q [x, y] 0 1 + 0)) a := by
  have i0 := under_inv hq ha hp 0 0 (by simp)
  have i1 := under_inv hq ha hp 0 1 (by simp)
  obtain ⟨u0, u1, o0, o1⟩ := under2 hq x y
  have k0 := (u0.symm.mul_right _).trans ((wAt_cg hq i0).trans o0)
  have k1 := (u1.symm.mul_right _).trans ((wAt_cg hq i1).trans o1)
  have hx := hp.1 x (by simp)
  have hy := hp.1 y (by simp)
  have hne : x ≠ y := by have := hp.2; simp at this; exact this
  generalize wAt q [x, y] 0 0 = w0 at *
  generalize wAt q [x, y] 0 1 = w1 at *
  refine cg_cancel (diff_inv hq ha hx hy hne) ?_
  have e : (x - y) * ((a + x * (b + x * 0)) * w0 + ((a + y * (b + y * 0)) * w1 + 0)) = (x - y) * w0 * (a + x * b) - (y - x) * w1 * (a + y * b) := by grind
  rw [e]
  refine ((k0.mul_right _).sub (k1.mul_right _)).trans (Cg.of_eq ?_)
  grind
theorem lag3 {q n x y z : Int} (hq : mayB q = true) (ha : Apart q n) (hp : Places n [x, y, z]) (a b c : Int) : Cg q ((a + x * (b + x * (c + x * 0))) * wAt q [x, y, z] 0 0 + ((a + y * (b + y * (c + y * 0))) * wAt q [x, y, z] 0 1 + ((a + z * (b + z * (c + z * 0))) * wAt q [x, y, z] 0 2 + 0))) a := by
  have i0 := under_inv hq ha hp 0 0 (by simp)
  have i1 := under_inv hq ha hp 0 1 (by simp)
  have i2 := under_inv hq ha hp 0 2 (by simp)
  obtain ⟨u0, u1, u2, o0, o1, o2⟩ := under3 hq x y z
  have k0 := (u0.symm.mul_right _).trans ((wAt_cg hq i0).trans o0)
  have k1 := (u1.symm.mul_right _).trans ((wAt_cg hq i1).trans o1)
  have k2 := (u2.symm.mul_right _).trans ((wAt_cg hq i2).trans o2)
  have hx := hp.1 x (by simp)
  have hy := hp.1 y (by simp)
  have hz := hp.1 z (by simp)
  have hne : x ≠ y ∧ x ≠ z ∧ y ≠ z := by have := hp.2; simp at this; exact ⟨this.1.1, this.1.2, this.2⟩
  generalize wAt q [x, y, z] 0 0 = w0 at *
  generalize wAt q [x, y, z] 0 1 = w1 at *
  generalize wAt q [x, y, z] 0 2 = w2 at *
  refine cg_cancel (diff_inv hq ha hx hy hne.1) (cg_cancel (diff_inv hq ha hx hz hne.2.1) (cg_cancel (diff_inv hq ha hy hz hne.2.2) ?_))
  have e : (y - z) * ((x - z) * ((x - y) * ((a + x * (b + x * (c + x * 0))) * w0 + ((a + y * (b + y * (c + y * 0))) * w1 + ((a + z * (b + z * (c + z * 0))) * w2 + 0))))) = (x - y) * (x - z) * w0 * ((y - z) * (a + x * (b + x * c))) - (y - x) * (y - z) * w1 * ((x - z) * (a + y * (b + y * c))) + (z - x) * (z - y) * w2 * ((x - y) * (a + z * (b + z * c))) := by grind
  rw [e]
  refine (((k0.mul_right _).sub (k1.mul_right _)).add (k2.mul_right _)).trans (Cg.of_eq ?_)
  grind
theorem len_two : ∀ {l : List Int}, l.length = 2 → ∃ x y, l = [x, y]
  | [x, y], _ => ⟨x, y, rfl⟩
theorem len_three : ∀ {l : List Int}, l.length = 3 → ∃ x y z, l = [x, y, z]
  | [x, y, z], _ => ⟨x, y, z, rfl⟩
/-- As many points as a polynomial has numbers tell its first. -/
theorem lag {q n : Int} (hq : mayB q = true) (ha : Apart q n) (hn : n < q) {xs l : List Int} (hp : Places n xs) (h : xs.length = 2 ∨ xs.length = 3) (hl : l.length = xs.length) : Cg q (dotZ (xs.map fun x => evZ x l) (wList q xs 0)) (l[0]?.getD 0) := by
  have hw : wList q xs 0 = (List.range xs.length).map (wAt q xs 0) := if_pos (werr_zero hq ha hn hp (by omega) 0)
  rw [hw]
  rcases h with h | h
  · obtain ⟨x, y, rfl⟩ : ∃ x y, xs = [x, y] := len_two h
    obtain ⟨a, b, rfl⟩ : ∃ a b, l = [a, b] := len_two hl
    exact lag2 hq ha hp a b
  · obtain ⟨x, y, z, rfl⟩ : ∃ x y z, xs = [x, y, z] := len_three h
    obtain ⟨a, b, c, rfl⟩ : ∃ a b c, l = [a, b, c] := len_three hl
    exact lag3 hq ha hp a b c
end Go.Proofs.YtiimippmihkgcaaGreatDoor

namespace Go.Proofs.YtiimippmihkgcaaGreatDoor
open Go Go.RowKit

/-- n unlike members of all, by a number. -/
def someI (n all which : Int) : List Int := (List.range n.toNat).map fun i : Nat => 1 + ((which % 18446744073709551616) % all + (i : Int)) % all
theorem someI_in {n all which : Int} (ha : 0 < all) : ∀ x ∈ someI n all which, 1 ≤ x ∧ x ≤ all := by
  intro x hx
  obtain ⟨i, _, rfl⟩ := List.mem_map.1 hx
  have h1 := Int.emod_nonneg ((which % 18446744073709551616) % all + (i : Int)) (show all ≠ 0 by omega)
  have h2 := Int.emod_lt_of_pos ((which % 18446744073709551616) % all + (i : Int)) ha
  omega
set_option maxHeartbeats 1000000 in
theorem some_any (n : Nat) (all which : Int) (w : World) (hn : n ≤ 7) (ha : 1 ≤ all ∧ all ≤ 7) (hw : I64 which) :
    Calls Tryz.prog 10 #[.int .i64 n, .int .i64 all, .int .i64 which] w (Gives encI (fun g => w.heap.size ≤ g) w (someI n all which)) := by
  obtain ⟨ha1, ha2⟩ := ha
  obtain ⟨hw1, hw2⟩ := hw
  obtain ⟨r, hr⟩ : ∃ r, r = (which % 18446744073709551616) % all := ⟨_, rfl⟩
  have hr1 : 0 ≤ r := by rw [hr]; exact Int.emod_nonneg _ (by omega)
  have hr2 : r < all := by rw [hr]; exact Int.emod_lt_of_pos _ (by omega)
  have HS : Hid (someI n all which = (List.range n).map fun i : Nat => 1 + (r + (i : Int)) % all) := Lib.hid (by rw [hr]; simp [someI])
  have e1 : IntKind.u64.wrap which = which % 18446744073709551616 := rfl
  have e2 : IntKind.u64.wrap all = all := IntWalk.u64_in _ (by omega)
  have e3 : Int.tmod (which % 18446744073709551616) all = r := by rw [hr]; exact Int.tmod_eq_emod_of_nonneg (by omega)
  have e4 : IntKind.i64.wrap r = r := IntWalk.i64_in _ (by omega)
  have HAR : Hid (which % 18446744073709551616 % all = r) := Lib.hid hr.symm
  clear hr
  have hall0 : (all == 0) = false := by simp; omega
  go_enter Tryz.func10, Tryz.ntmps10
  go_wp2_with fail
  go_loopg [7, 8] n (fun g s7 s8 wx => ∃ j : Nat, j + g = n ∧ s8 = .int .i64 j ∧ Hid (Acc encI w.heap.size 3 (fun g => w.heap.size ≤ g) wx s7 ((List.range j).map fun i : Nat => 1 + (r + (i : Int)) % all) ∧ w.grownBy wx none))
  case atStart => exact ⟨0, by omega, rfl, Lib.hid ⟨Acc.nil _ _ _ _ _, World.grownBy.refl _ none⟩⟩
  case round =>
    obtain ⟨j, hj, rfl, HX⟩ := hrel
    cases gk with
    | zero =>
      obtain rfl : j = n := by omega
      have HR : Hid (Sl encI (fun g => w.heap.size ≤ g) wr u7 (someI j all which) ∧ w.grownBy wr none) := Lib.hid ⟨by rw [HS.out]; exact HX.out.1.sl, HX.out.2⟩
      clear HX
      go_wp2
      go_ret
      exact ⟨_, rfl, HR.out.1, HR.out.2⟩
    | succ m =>
      have hjn : (j : Int) < (n : Int) := by omega
      have HSN : Hid (((List.range (j + 1)).map fun i : Nat => 1 + (r + (i : Int)) % all) = ((List.range j).map fun i : Nat => 1 + (r + (i : Int)) % all) ++ [1 + (r + (j : Int)) % all]) := Lib.hid (by simp [List.range_succ])
      obtain ⟨hacc, hg⟩ := HX.out
      have HAC := Lib.hid hacc
      have HG := Lib.hid hg
      have HLB : Hid ((((List.range j).map fun i : Nat => 1 + (r + (i : Int)) % all).length + 1) * 8 ≤ 140737488355328) := Lib.hid (by simp; omega)
      have q1 := Int.emod_nonneg (r + (j : Int)) (show all ≠ 0 by omega)
      have q2 := Int.emod_lt_of_pos (r + (j : Int)) (show 0 < all by omega)
      have e5 : Int.tmod (r + (j : Int)) all = (r + (j : Int)) % all := Int.tmod_eq_emod_of_nonneg (by omega)
      have HI : Hid (I64 (1 + (r + (j : Int)) % all)) := Lib.hid ⟨by omega, by omega⟩
      clear hacc hg HX
      go_wp2_with (at_builtin; refine wpList_pushG rfl (.tmp 14) (.tmp 26) rfl (E := encI) (y := 1 + (r + (j : Int)) % all) el_int HG.out HAC.out (fun _ h => h) ⟨rfl, HI.out⟩ HLB.out rfl rfl ?_)
      intro v2 w2 hacc2 hg2 hgo
      have HFIN : Hid (Acc encI w.heap.size 3 (fun g => w.heap.size ≤ g) w2 v2 ((List.range (j + 1)).map fun i : Nat => 1 + (r + (i : Int)) % all) ∧ w.grownBy w2 none) := Lib.hid ⟨by rw [HSN.out]; simpa using hacc2, hg2⟩
      clear hacc2 hg2 hgo
      go_wp2_with fail
      go_roundg m
      case measure => omega
      case rel => exact ⟨j + 1, by omega, by go_num, HFIN⟩
/-- Three lists built side by side. -/
structure Tri {α β γ : Type} (E : Enc α) (F : Enc β) (G : Enc γ) (base : Nat) (e f g : TypeId) (Z : Nat → Prop) (w : World) (v u t : Value) (xs : List α) (ys : List β) (zs : List γ) : Prop where
  fst : Acc E base e (fun b => Z b ∧ some b ≠ u.ownBlock ∧ some b ≠ t.ownBlock) w v xs
  snd : Acc F base f (fun b => Z b ∧ some b ≠ v.ownBlock ∧ some b ≠ t.ownBlock) w u ys
  trd : Acc G base g (fun b => Z b ∧ some b ≠ v.ownBlock ∧ some b ≠ u.ownBlock) w t zs
section
variable {α β γ : Type} {E : Enc α} {F : Enc β} {G : Enc γ} {base : Nat} {e f g : TypeId} {Z : Nat → Prop} {w w' : World} {v u t v' u' t' : Value} {xs xs' : List α} {ys ys' : List β} {zs zs' : List γ}
theorem Tri.kept (h : Tri E F G base e f g Z w v u t xs ys zs) (hg : w.grownBy w' none) : Tri E F G base e f g Z w' v u t xs ys zs := ⟨h.fst.kept hg, h.snd.kept hg, h.trd.kept hg⟩
theorem Tri.rot (h : Tri E F G base e f g Z w v u t xs ys zs) : Tri F G E base f g e Z w u t v ys zs xs := ⟨h.snd.more fun _ _ x => ⟨x.1, x.2.2, x.2.1⟩, h.trd.more fun _ _ x => ⟨x.1, x.2.2, x.2.1⟩, h.fst⟩
theorem Tri.one (h : Tri E F G base e f g Z w v u t xs ys zs) (ha : Acc E base e (fun b => Z b ∧ some b ≠ u.ownBlock ∧ some b ≠ t.ownBlock) w' v' xs') (hg : w.grownBy w' v.ownBlock) (hm : Moved w v v') : Tri E F G base e f g Z w' v' u t xs' ys zs := by
  have k : ∀ b, b < w.heap.size → some b ≠ v.ownBlock → some b ≠ v'.ownBlock := fun b hb hx e => hm.ne hb (fun e' => hx e'.symm) e.symm
  refine ⟨ha, ?_, ?_⟩
  · have h1 : Acc F base f (fun b => (Z b ∧ some b ≠ v'.ownBlock ∧ some b ≠ t.ownBlock) ∧ some b ≠ v.ownBlock) w u ys := h.snd.more fun b hb hx => ⟨⟨hx.1, k b hb hx.2.1, hx.2.2⟩, hx.2.1⟩
    exact (h1.keep hg fun g hx => hx.2).more fun g _ hx => hx.1
  · have h1 : Acc G base g (fun b => (Z b ∧ some b ≠ v'.ownBlock ∧ some b ≠ u.ownBlock) ∧ some b ≠ v.ownBlock) w t zs := h.trd.more fun b hb hx => ⟨⟨hx.1, k b hb hx.2.1, hx.2.2⟩, hx.2.1⟩
    exact (h1.keep hg fun g hx => hx.2).more fun g _ hx => hx.1
theorem Tri.two (h : Tri E F G base e f g Z w v u t xs ys zs) (ha : Acc F base f (fun b => Z b ∧ some b ≠ v.ownBlock ∧ some b ≠ t.ownBlock) w' u' ys') (hg : w.grownBy w' u.ownBlock) (hm : Moved w u u') : Tri E F G base e f g Z w' v u' t xs ys' zs := ((h.rot.one (ha.more fun _ _ x => ⟨x.1, x.2.2, x.2.1⟩) hg hm).rot.rot)
theorem Tri.three (h : Tri E F G base e f g Z w v u t xs ys zs) (ha : Acc G base g (fun b => Z b ∧ some b ≠ v.ownBlock ∧ some b ≠ u.ownBlock) w' t' zs') (hg : w.grownBy w' t.ownBlock) (hm : Moved w t t') : Tri E F G base e f g Z w' v u t' xs ys zs' := ((h.rot.rot.one (ha.more fun _ _ x => x) hg hm).rot)
theorem Tri.nil (E : Enc α) (F : Enc β) (G : Enc γ) (base : Nat) (e f g : TypeId) (Z : Nat → Prop) (w : World) : Tri E F G base e f g Z w (.slice none 0 0) (.slice none 0 0) (.slice none 0 0) [] [] [] := ⟨Acc.nil _ _ _ _ _, Acc.nil _ _ _ _ _, Acc.nil _ _ _ _ _⟩
theorem Tri.new1 (h : Tri E F G base e f g Z w v u t xs ys zs) (hZ : ∀ b, w.heap.size ≤ b → Z b) : ∀ b, w.heap.size ≤ b → Z b ∧ some b ≠ u.ownBlock ∧ some b ≠ t.ownBlock := fun b hb => ⟨hZ b hb, fun e => by have := (h.snd.lt b e.symm).2; omega, fun e => by have := (h.trd.lt b e.symm).2; omega⟩
theorem Tri.new2 (h : Tri E F G base e f g Z w v u t xs ys zs) (hZ : ∀ b, w.heap.size ≤ b → Z b) : ∀ b, w.heap.size ≤ b → Z b ∧ some b ≠ v.ownBlock ∧ some b ≠ t.ownBlock := fun b hb => ⟨hZ b hb, fun e => by have := (h.fst.lt b e.symm).2; omega, fun e => by have := (h.trd.lt b e.symm).2; omega⟩
theorem Tri.new3 (h : Tri E F G base e f g Z w v u t xs ys zs) (hZ : ∀ b, w.heap.size ≤ b → Z b) : ∀ b, w.heap.size ≤ b → Z b ∧ some b ≠ v.ownBlock ∧ some b ≠ u.ownBlock := fun b hb => ⟨hZ b hb, fun e => by have := (h.fst.lt b e.symm).2; omega, fun e => by have := (h.snd.lt b e.symm).2; omega⟩
end
end Go.Proofs.YtiimippmihkgcaaGreatDoor

namespace Go.Proofs.YtiimippmihkgcaaGreatDoor
open Go.RowKit

theorem evalI_cons' (q : Int) (y : Int) (c : List Int) (x : Int) : evalI q (y :: c) x = addI (mulI (evalI q c x) x q) y q := by simp [evalI, evalGo]
theorem evalI_cg' {q : Int} (hq : mayB q = true) (x : Int) : ∀ (c : List Int), Cg q (evalI q c x) (evZ x c)
  | [] => Cg.refl _ _
  | y :: c => by
    rw [evalI_cons', addI_yes _ _ _ hq, mulI_yes _ _ _ hq]
    refine (Cg.mod _ _).trans (((Cg.mod _ _).trans ((evalI_cg' hq x c).mul_right x)).add (Cg.refl _ y) |>.trans (Cg.of_eq ?_))
    show evZ x c * x + y = y + x * evZ x c
    rw [Int.mul_comm, Int.add_comm]
theorem places_some (k : Nat) (n which : Int) (hn : 1 ≤ n) (hk : (k : Int) ≤ n) : Places n (someI k n which) := by
  refine ⟨someI_in (by omega), ?_⟩
  unfold someI
  rw [Int.toNat_natCast]
  obtain ⟨r, hr⟩ : ∃ r, r = which % 18446744073709551616 % n := ⟨_, rfl⟩
  rw [← hr]
  refine List.pairwise_map.2 (List.Pairwise.imp_of_mem (R := (· < ·)) (fun {a b} ha hb hab => ?_) List.pairwise_lt_range)
  have h1 := List.mem_range.1 ha
  have h2 := List.mem_range.1 hb
  intro e
  have e' : (r + (a : Int)) % n = (r + (b : Int)) % n := by omega
  have hd : n ∣ (r + (b : Int)) - (r + (a : Int)) := Int.dvd_of_emod_eq_zero (by rw [Int.sub_emod, e', Int.sub_self]; rfl)
  obtain ⟨q, hq⟩ := hd
  have h3 : (b : Int) - a = n * q := by omega
  have hq0 : 0 < q := by
    rcases Int.lt_or_le 0 q with h | h
    · exact h
    · have := Int.mul_le_mul_of_nonneg_left h (show (0 : Int) ≤ n by omega)
      omega
  have := Int.mul_le_mul_of_nonneg_left (show (1 : Int) ≤ q by omega) (show (0 : Int) ≤ n by omega)
  omega
/-- What member i has of a dealing. -/
def dealtI (p : Par) (F R : List (List Int)) (i : Int) : List (Int × Int) := (List.range F.length).map fun s => (evalI p.Q (F[s]?.getD []) i, evalI p.Q (R[s]?.getD []) i)
/-- The shares of T + 1 members come to what the polynomials are at 0. -/
theorem who_sum {p : Par} (hm : mayP p = true) (which : Int) {t : Nat} (ht : (t : Int) = p.T + 1) (F R : List (List Int)) (hF : (F.length : Int) = secretsI p) (hl : ∀ f ∈ F, f.length = t) :
    sumE p (someI t p.N which) ((someI t p.N which).map (dealtI p F R)) = 0 ∧ (sumL p (someI t p.N which) ((someI t p.N which).map (dealtI p F R))).map (·.1) = F.map fun f => (f[0]?.getD 0) % p.Q := by
  obtain ⟨hq, hP, ha, n1, n2, n3, t1, t2, t3, hs, k1, d1⟩ := may_apart hm
  obtain ⟨at_, hat⟩ : ∃ a, a = someI t p.N which := ⟨_, rfl⟩
  have hpl : Places p.N at_ := by rw [hat]; exact places_some t p.N which (by omega) (by omega)
  have hlen : at_.length = t := by rw [hat]; simp [someI]
  rw [← hat]
  have hmem : MemOk p at_ (at_.map (dealtI p F R)) := ⟨hm, hpl, by omega, by simp, fun x hx => by
    obtain ⟨i, _, rfl⟩ := List.mem_map.1 hx
    simpa [dealtI] using hF⟩
  refine ⟨sum_good hmem, ?_⟩
  have h0 := mayB_pos hq
  have hw := wlist_length hq ha n3 hpl (by omega) 0
  unfold sumL
  rw [if_pos (sum_good hmem), List.map_map, ← hF, Int.toNat_natCast]
  refine List.ext_getElem (by simp) fun s s1 s2 => ?_
  have hsF : s < F.length := by simpa using s2
  rw [List.getElem_map, List.getElem_range, List.getElem_map]
  show (comeP p.Q ((at_.map (dealtI p F R)).map fun x => x[s]?.getD (0, 0)) (wList p.Q at_ 0) (0, 0)).1 = _
  rw [comeP_eq _ hq _ _ _ (by simp [hw]) (Int.le_refl 0) h0 (Int.le_refl 0) h0]
  show (0 + dotZ (((at_.map (dealtI p F R)).map fun x => x[s]?.getD (0, 0)).map (·.1)) (wList p.Q at_ 0)) % p.Q = _
  rw [Int.zero_add, List.map_map, List.map_map]
  have e1 : at_.map (((·.1) ∘ (fun x : List (Int × Int) => x[s]?.getD (0, 0))) ∘ dealtI p F R) = at_.map fun i => evalI p.Q F[s] i := List.map_congr_left fun i _ => by
    simp [dealtI, hsF]
  rw [e1]
  have h1 := dotZ_cg (fun i => evalI p.Q F[s] i) (fun i => evZ i F[s]) (fun i => evalI_cg' hq i F[s]) at_ (wList p.Q at_ 0)
  have h2 := lag hq ha n3 hpl (by omega) (l := F[s]) (by rw [hlen, hl _ (List.getElem_mem hsF)])
  exact h1.trans h2
/-- The number at a place of a list, as the law draws it. -/
def drw (l : List Int) (M : Int) (a : Nat) : Int := Int.tmod (if 0 < l.length then l[a % l.length]?.getD 0 else Int.tmod (a : Int) 3) (M + 1)
theorem drw_bd (l : List Int) {M : Int} (hM : 1 ≤ M) (a : Nat) : -M ≤ drw l M a ∧ drw l M a ≤ M := by
  unfold drw
  generalize (if 0 < l.length then l[a % l.length]?.getD 0 else Int.tmod (a : Int) 3) = x
  have h1 : (Int.tmod x (M + 1)).natAbs = x.natAbs % (M + 1).natAbs := Int.natAbs_tmod x (M + 1)
  have h2 : x.natAbs % (M + 1).natAbs < (M + 1).natAbs := Nat.mod_lt _ (by omega)
  omega
theorem fixI_back {q d M : Int} (hq : mayB q = true) (hd : -M ≤ d ∧ d ≤ M) (hM : 2 * M < q) : fixI (d % q) q = d := by
  have h0 := mayB_pos hq
  have e : addI (d % q) 0 q = d % q := by rw [addI_yes _ _ _ hq, Int.add_zero]; exact Cg.mod q d
  unfold fixI
  rw [if_neg (by omega), e]
  rcases Int.lt_or_le d 0 with h | h
  · have : d % q = d + q := by
      have h1 : (d + q) % q = d % q := by simp
      rw [← h1]
      exact Int.emod_eq_of_lt (by omega) (by omega)
    rw [this, if_neg (by omega)]
    omega
  · have : d % q = d := Int.emod_eq_of_lt h (by omega)
    rw [this, if_pos (by omega)]
def whoW (p : Par) (l : List Int) : List (List Int) := (List.range p.K.toNat).map fun k => (List.range p.D.toNat).map fun d => drw l p.M (k * (p.D.toNat + 1) + d)
def whoB (p : Par) (l : List Int) : List Int := (List.range p.K.toNat).map fun k => drw l p.M (k * (p.D.toNat + 1) + p.D.toNat)
/-- The secrets, as numbers. -/
def whoS (p : Par) (l : List Int) : List Int := (List.range (secretsI p).toNat).map fun a => drw l p.M a % p.Q
theorem may_sizes {p : Par} (h : mayP p = true) : 1 ≤ p.K ∧ p.K ≤ 2 ∧ 1 ≤ p.D ∧ p.D ≤ 4 ∧ 1 ≤ p.M ∧ p.M ≤ 1048576 ∧ 2 * p.M < p.Q ∧ 1 ≤ p.X ∧ p.X ≤ 1048576 ∧ p.Q ≤ 2305843009213693952 := by
  have hh := h
  simp only [mayP, m5, m7, m8, m9, Bool.and_eq_true, withinB_iff, decide_eq_true_eq] at hh
  obtain ⟨⟨⟨⟨⟨⟨_, a5⟩, _⟩, a7⟩, a8⟩, a9⟩, _⟩ := hh
  obtain ⟨⟨k1, k2⟩, d1, d2⟩ := a5
  obtain ⟨⟨M1, M2⟩, x1, x2⟩ := a7
  have hQ : p.Q ≤ 2305843009213693952 := by
    have hq := a9.1
    unfold primeB at hq
    split at hq
    · cases hq
    · omega
  have h1 : 0 ≤ p.D * p.M * p.X := Int.mul_nonneg (Int.mul_nonneg (by omega) (by omega)) (by omega)
  exact ⟨k1, k2, d1, d2, M1, M2, by omega, x1, x2, hQ⟩
theorem secretsI_eq {p : Par} (h : mayP p = true) : secretsI p = ((p.K.toNat * (p.D.toNat + 1) : Nat) : Int) := by
  obtain ⟨k1, k2, d1, d2, _⟩ := may_sizes h
  have hk : p.K = 1 ∨ p.K = 2 := by omega
  have hd : p.D = 1 ∨ p.D = 2 ∨ p.D = 3 ∨ p.D = 4 := by omega
  unfold secretsI
  rcases hk with hk | hk <;> rcases hd with hd | hd | hd | hd <;> rw [hk, hd] <;> decide +kernel
theorem who_model {p : Par} (hm : mayP p = true) (l : List Int) : modelE p (whoS p l) = 0 ∧ modelW p (whoS p l) = whoW p l ∧ modelB p (whoS p l) = whoB p l := by
  obtain ⟨hq, hP, ha, n1, n2, n3, t1, t2, t3, hs, _, _⟩ := may_apart hm
  obtain ⟨k1, k2, d1, d2, M1, M2, hMQ, x1, x2, hQ⟩ := may_sizes hm
  have hsec := secretsI_eq hm
  have hb : ∀ a, fixI (drw l p.M a % p.Q) p.Q = drw l p.M a := fun a => fixI_back hq (drw_bd l M1 a) hMQ
  have hout : (whoS p l).any (outB p) = false := List.any_eq_false.2 fun x hx => by
    obtain ⟨a, _, rfl⟩ := List.mem_map.1 hx
    have := drw_bd l M1 a
    have hw : wrap64 (-p.M) = -p.M := IntWalk.wrap64_in _ ⟨by omega, by omega⟩
    simp [outB, hb, hw]
    omega
  have hl : (whoS p l).length = p.K.toNat * (p.D.toNat + 1) := by
    unfold whoS
    rw [List.length_map, List.length_range, hsec, Int.toNat_natCast]
  have hE : modelE p (whoS p l) = 0 := by
    unfold modelE
    rw [hs, hout, if_pos (by simp [hl, hsec, k1, d1])]
    rfl
  have hD : (p.D + 1).toNat = p.D.toNat + 1 := by omega
  have hat : ∀ a, a < p.K.toNat * (p.D.toNat + 1) → (whoS p l)[a]? = some (drw l p.M a % p.Q) := fun a h => by
    unfold whoS
    rw [hsec, Int.toNat_natCast, List.getElem?_map, List.getElem?_range h]
    rfl
  have hin : ∀ k, k < p.K.toNat → k * (p.D.toNat + 1) + (p.D.toNat + 1) ≤ p.K.toNat * (p.D.toNat + 1) := fun k h => by
    have := Nat.mul_le_mul_right (p.D.toNat + 1) (show k + 1 ≤ p.K.toNat from h)
    rw [Nat.succ_mul] at this
    exact this
  refine ⟨hE, ?_, ?_⟩
  · unfold modelW whoW chk
    rw [if_pos hE, List.map_map, hD]
    refine List.map_congr_left fun k hk => ?_
    have h1 := hin k (List.mem_range.1 hk)
    show (((List.drop (k * (p.D.toNat + 1)) (whoS p l)).take (p.D.toNat + 1)).take p.D.toNat).map (fun x => fixI x p.Q) = _
    refine List.ext_getElem (by simp [hl]; omega) fun d e1 e2 => ?_
    have hd : d < p.D.toNat := by simpa using e2
    have h2 := hat (k * (p.D.toNat + 1) + d) (by omega)
    obtain ⟨h3, h4⟩ := List.getElem?_eq_some_iff.1 h2
    rw [List.getElem_map, List.getElem_take, List.getElem_take, List.getElem_drop, h4, hb, List.getElem_map, List.getElem_range]
  · unfold modelB whoB chk
    rw [if_pos hE, List.map_map, hD]
    refine List.map_congr_left fun k hk => ?_
    have h1 := hin k (List.mem_range.1 hk)
    show fixI ((((List.drop (k * (p.D.toNat + 1)) (whoS p l)).take (p.D.toNat + 1))[p.D.toNat]?).getD 0) p.Q = _
    rw [List.getElem?_take_of_lt (by omega), List.getElem?_drop, hat _ (by omega)]
    exact hb _
end Go.Proofs.YtiimippmihkgcaaGreatDoor

namespace Go.Proofs.YtiimippmihkgcaaGreatDoor
open Go Go.RowKit

/-- The product of powers, as the integers have it. -/
def pg (Q i : Int) : List Int → Int → Int
  | [], _ => 1
  | y :: l, e => y ^ e.toNat * pg Q i l (mulI e i Q)
theorem atGo_cg {p : Par} (hm : mayB p.P = true) (i : Int) : ∀ (l : List Int) (x e : Int), Cg p.P (atGo p i l x e) (x * pg p.Q i l e)
  | [], x, e => Cg.of_eq (by simp [atGo, pg])
  | y :: l, x, e => by
    show Cg p.P (atGo p i l (timesI p.P [x, powI y e p.P]) (mulI e i p.Q)) _
    refine (atGo_cg hm i l _ _).trans ?_
    refine (((times_two_cg _ _ _ hm).trans (Cg.mul_left (powI_cg _ _ _ hm) x)).mul_right _).trans (Cg.of_eq ?_)
    simp only [pg, Int.mul_assoc]
theorem atI_cg {p : Par} (hm : mayB p.P = true) (l : List Int) (i : Int) : Cg p.P (atI p l i) (pg p.Q i l (mulI 1 1 p.Q)) := by
  refine (atGo_cg hm i l _ _).trans ?_
  rw [times_nil_eq _ hm]
  exact ((Cg.mod _ _).mul_right _).trans (Cg.of_eq (Int.one_mul _))
theorem atGo_red {p : Par} (hm : mayB p.P = true) (i : Int) : ∀ (l : List Int) (x e : Int), x % p.P = x → atGo p i l x e % p.P = atGo p i l x e
  | [], _, _, h => h
  | y :: l, x, e, _ => by
    refine atGo_red hm i l _ _ ?_
    rw [times_two_eq _ _ _ hm]
    exact Int.emod_emod_of_dvd _ (Int.dvd_refl _)
theorem atI_red {p : Par} (hm : mayB p.P = true) (l : List Int) (i : Int) : atI p l i % p.P = atI p l i := atGo_red hm i l _ _ (by rw [times_nil_eq _ hm]; exact Int.emod_emod_of_dvd _ (Int.dvd_refl _))
theorem atI_of_cg {p : Par} (hm : mayB p.P = true) {l l' : List Int} {i i' : Int} (h : Cg p.P (atI p l i) (atI p l' i')) : atI p l i = atI p l' i' := by
  rw [← atI_red hm l i, ← atI_red hm l' i']
  exact h
/-- Congruence, one by one. -/
def CgL (m : Int) : List Int → List Int → Prop
  | [], [] => True
  | a :: l, b :: k => Cg m a b ∧ CgL m l k
  | _, _ => False
theorem CgL.map {α : Type} {m : Int} {f g : α → Int} : ∀ (l : List α), (∀ x ∈ l, Cg m (f x) (g x)) → CgL m (l.map f) (l.map g)
  | [], _ => trivial
  | x :: l, h => ⟨h x (by simp), CgL.map l fun y hy => h y (by simp [hy])⟩
theorem pg_cg {m Q i : Int} : ∀ {l k : List Int} (e : Int), CgL m l k → Cg m (pg Q i l e) (pg Q i k e)
  | [], [], _, _ => Cg.refl _ _
  | _ :: _, _ :: _, _, ⟨h1, h2⟩ => (h1.pow _).mul (pg_cg _ h2)
theorem pg_mul {α : Type} {Q i : Int} (f g : α → Int) : ∀ (l : List α) (e : Int), pg Q i (l.map fun x => f x * g x) e = pg Q i (l.map f) e * pg Q i (l.map g) e
  | [], _ => by simp [pg]
  | x :: l, e => by
    simp only [List.map_cons, pg, pg_mul f g l, Int.mul_pow]
    exact mul4 _ _ _ _
theorem pg_pow {α : Type} {Q i : Int} (f : α → Int) (k : Nat) : ∀ (l : List α) (e : Int), pg Q i (l.map fun x => f x ^ k) e = pg Q i (l.map f) e ^ k
  | [], _ => by simp [pg, Int.one_pow]
  | x :: l, e => by
    simp only [List.map_cons, pg, pg_pow f k l, Int.mul_pow]
    rw [← Int.pow_mul, ← Int.pow_mul, Nat.mul_comm]
theorem pg_ones {α : Type} {Q i : Int} : ∀ (l : List α) (e : Int), pg Q i (l.map fun _ => 1) e = 1
  | [], _ => rfl
  | x :: l, e => by simp [pg, pg_ones l, Int.one_pow]
theorem map_getD {l : List Int} {n : Nat} (h : l.length = n) (d : Int) : (List.range n).map (fun j => l[j]?.getD d) = l := by
  subst h
  refine List.ext_getElem (by simp) fun i h1 h2 => ?_
  have h2 : i < l.length := h2
  simp [List.getElem?_eq_getElem h2]
/-- Rows first, or columns first. -/
theorem pg_either {p : Par} {x y : Int} {n : Nat} : ∀ (M : List (List Int)) (e f : Int), (∀ r ∈ M, r.length = n) →
    pg p.Q y ((List.range n).map fun j => pg p.Q x (colI p M j) e) f = pg p.Q x (M.map fun r => pg p.Q y r f) e
  | [], e, f, _ => pg_ones _ _
  | r :: M, e, f, h => by
    have h1 : ∀ j, pg p.Q x (colI p (r :: M) j) e = (r[j]?.getD (timesI p.P [])) ^ e.toNat * pg p.Q x (colI p M j) (mulI e x p.Q) := fun j => rfl
    simp only [h1]
    rw [pg_mul, pg_pow, map_getD (h r (by simp)), pg_either M _ _ fun r hr => h r (by simp [hr])]
    rfl
theorem wide_eq {n : Nat} : ∀ (M : List (List Int)) (k : Nat), (∀ r ∈ M, r.length = n) → k ≤ n → M ≠ [] → M.foldl (fun k c => max k c.length) k = n
  | [], _, _, _, h => absurd rfl h
  | [r], k, h, hk, _ => by
    have := h r (by simp)
    show max k r.length = n
    omega
  | r :: s :: M, k, h, hk, _ => by
    refine wide_eq (s :: M) _ (fun r hr => h r (by simp [hr])) ?_ (by simp)
    have := h r (by simp)
    show max k r.length ≤ n
    omega
theorem either_law {p : Par} (hm : mayB p.P = true) (M : List (List Int)) (n : Nat) (h : ∀ r ∈ M, r.length = n) (hn : M ≠ []) (x y : Int) : atI p (shareI p (turnedI p M) x) y = atI p (shareI p M y) x := by
  have hw : wideI M = n := wide_eq M 0 h (Nat.zero_le _) hn
  refine atI_of_cg hm ((atI_cg hm _ _).trans (Cg.trans ?_ (atI_cg hm _ _).symm))
  have e1 : shareI p (turnedI p M) x = (List.range n).map fun j => atI p (colI p M j) x := by simp [shareI, turnedI, hw, Function.comp_def]
  rw [e1]
  refine (pg_cg _ (CgL.map (g := fun j => pg p.Q x (colI p M j) (mulI 1 1 p.Q)) _ fun j _ => atI_cg hm _ _)).trans ?_
  rw [pg_either M _ _ h]
  exact (pg_cg _ (CgL.map M fun r _ => atI_cg hm r y)).symm
theorem either_all {p : Par} (hm : mayB p.P = true) (m : List (List (List Int))) (n : Nat) (h : ∀ M ∈ m, M ≠ [] ∧ ∀ r ∈ M, r.length = n) (x y : Int) : shareI p (rowComsI p m x) y = shareI p (colComsI p m y) x := by
  simp only [shareI, rowComsI, colComsI, List.map_map]
  refine List.map_congr_left fun M hM => ?_
  exact either_law hm M n (h M hM).2 (h M hM).1 x y
theorem mat_shape (p : Par) (f : List (List (List Int))) (n k : Nat) (hk : 0 < k) (h : ∀ a ∈ f, a.length = k ∧ ∀ r ∈ a, r.length = n) : (matI p f []).length = f.length ∧ ∀ M ∈ matI p f [], (M ≠ [] ∧ M.length = k) ∧ ∀ r ∈ M, r.length = n := by
  refine ⟨by simp [matI, zipS], fun M hM => ?_⟩
  simp only [matI, zipS, List.map_map, List.mem_map, List.mem_range, List.length_nil, Nat.max_zero, Function.comp] at hM
  obtain ⟨i, hi, rfl⟩ := hM
  obtain ⟨h1, h2⟩ := h f[i] (List.getElem_mem hi)
  have hl : (comsI p (f[i]?.getD []) (([] : List (List (List Int)))[i]?.getD [])).length = k := by simp [comsI, zipS, List.getElem?_eq_getElem hi, h1]
  refine ⟨⟨fun e => by rw [e] at hl; simp at hl; omega, hl⟩, fun r hr => ?_⟩
  simp only [comsI, zipS, List.map_map, List.mem_map, List.mem_range, Function.comp, List.getElem?_eq_getElem hi, Option.getD_some] at hr
  obtain ⟨j, hj, rfl⟩ := hr
  simp only [List.getElem?_nil, Option.getD_none, List.length_nil, Nat.max_zero] at hj ⊢
  have := h2 f[i][j] (List.getElem_mem hj)
  simp [comI, zipU, List.getElem?_eq_getElem hj, this]
end Go.Proofs.YtiimippmihkgcaaGreatDoor

namespace Go.Proofs.YtiimippmihkgcaaGreatDoor
open Go Go.RowKit

/-- A list of a matrix that is none. -/
def sqBad (p : Par) (l : List (List Int)) : Bool := !allB p l (wrap64 (p.T + 1)) (wrap64 (p.T + 1))
/-- Square: as many lists as there are secrets, each a square of numbers of the group. -/
def squareB (p : Par) (m : List (List (List Int))) : Bool := decide ((m.length : Int) = secretsI p) && !m.any fun x => sqBad p x
end Go.Proofs.YtiimippmihkgcaaGreatDoor

namespace Go.Proofs.YtiimippmihkgcaaGreatDoor
open Go Go.RowKit

/-- The value of a polynomial, over the integers. -/
def polyZ (x : Int) : List Int → Int
  | [] => 0
  | y :: l => y + x * polyZ x l
theorem evalI_cons (q : Int) (y : Int) (c : List Int) (x : Int) : evalI q (y :: c) x = addI (mulI (evalI q c x) x q) y q := by simp [evalI, evalGo]
theorem evalI_bd {q : Int} (hq : mayB q = true) (c : List Int) (x : Int) : 0 ≤ evalI q c x ∧ evalI q c x < q := by
  have h := (may_bds hq).1
  cases c with
  | nil => exact ⟨Int.le_refl _, h⟩
  | cons y c =>
    rw [evalI_cons, addI_yes _ _ _ hq]
    exact ⟨Int.emod_nonneg _ (by omega), Int.emod_lt_of_pos _ h⟩
theorem evalI_cg {q : Int} (hq : mayB q = true) (x : Int) : ∀ (c : List Int), Cg q (evalI q c x) (polyZ x c)
  | [] => Cg.refl _ _
  | y :: c => by
    rw [evalI_cons, addI_yes _ _ _ hq, mulI_yes _ _ _ hq]
    refine (Cg.mod _ _).trans (((Cg.mod _ _).trans ((evalI_cg hq x c).mul_right x)).add (Cg.refl _ y) |>.trans (Cg.of_eq ?_))
    show polyZ x c * x + y = y + x * polyZ x c
    rw [Int.mul_comm, Int.add_comm]
theorem valGo_cg {q x : Int} (hq : mayB q = true) : ∀ (l : List (Int × Int)) (v : Int × Int) (e : Int), Cg q (valGo q x l v e).1 (v.1 + e * polyZ x (l.map Prod.fst)) ∧ Cg q (valGo q x l v e).2 (v.2 + e * polyZ x (l.map Prod.snd))
  | [], v, e => ⟨Cg.of_eq (by simp [valGo, polyZ]), Cg.of_eq (by simp [valGo, polyZ])⟩
  | y :: l, v, e => by
    obtain ⟨h1, h2⟩ := valGo_cg hq l (addI v.1 (mulI y.1 e q) q, addI v.2 (mulI y.2 e q) q) (mulI e x q)
    have key : ∀ (a b s : Int), Cg q (addI a (mulI b e q) q + mulI e x q * s) (a + e * (b + x * s)) := fun a b s => by
      rw [addI_yes _ _ _ hq, mulI_yes _ _ _ hq, mulI_yes _ _ _ hq]
      refine (((Cg.mod _ _).trans ((Cg.refl _ a).add (Cg.mod _ _))).add ((Cg.mod _ _).mul_right s)).trans (Cg.of_eq ?_)
      rw [Int.mul_add, Int.mul_comm b e, Int.mul_assoc]
      omega
    exact ⟨h1.trans (key _ _ _), h2.trans (key _ _ _)⟩
theorem valGo_bd {q x : Int} (hq : mayB q = true) : ∀ (l : List (Int × Int)) (v : Int × Int) (e : Int), 0 ≤ v.1 ∧ v.1 < q → 0 ≤ v.2 ∧ v.2 < q → (0 ≤ (valGo q x l v e).1 ∧ (valGo q x l v e).1 < q) ∧ 0 ≤ (valGo q x l v e).2 ∧ (valGo q x l v e).2 < q
  | [], v, e, h1, h2 => ⟨h1, h2⟩
  | y :: l, v, e, _, _ => by
    have h := (may_bds hq).1
    have k : ∀ a b : Int, 0 ≤ addI a b q ∧ addI a b q < q := fun a b => by
      rw [addI_yes _ _ _ hq]
      exact ⟨Int.emod_nonneg _ (by omega), Int.emod_lt_of_pos _ h⟩
    exact valGo_bd hq l _ _ (k _ _) (k _ _)
theorem val_eval {q x : Int} (hq : mayB q = true) (l : List (Int × Int)) : valGo q x l (0, 0) 1 = (evalI q (l.map Prod.fst) x, evalI q (l.map Prod.snd) x) := by
  have h := (may_bds hq).1
  obtain ⟨h1, h2⟩ := valGo_cg (x := x) hq l (0, 0) 1
  obtain ⟨b1, b2⟩ := valGo_bd (x := x) hq l (0, 0) 1 ⟨Int.le_refl _, h⟩ ⟨Int.le_refl _, h⟩
  have e1 := evalI_bd hq (l.map Prod.fst) x
  have e2 := evalI_bd hq (l.map Prod.snd) x
  rw [show (0 : Int) + 1 * polyZ x (l.map Prod.fst) = polyZ x (l.map Prod.fst) by omega] at h1
  rw [show (0 : Int) + 1 * polyZ x (l.map Prod.snd) = polyZ x (l.map Prod.snd) by omega] at h2
  exact Prod.ext ((h1.trans (evalI_cg hq x _).symm).eq b1.1 b1.2 e1.1 e1.2) ((h2.trans (evalI_cg hq x _).symm).eq b2.1 b2.2 e2.1 e2.2)
/-- What At tells of commitments. -/
theorem at_eval {p : Par} (h : Good p) (i : Int) (hi : 0 ≤ i) (l : List (Int × Int)) (hl : ∀ y ∈ l, 0 ≤ y.1 ∧ 0 ≤ y.2) : atI p (l.map (commitI p)) i = commitI p (evalI p.Q (l.map Prod.fst) i, evalI p.Q (l.map Prod.snd) i) := by
  rw [at_commits h i hi l hl, val_eval h.Q]
/-- A list of n lists of n numbers, none below 0. -/
def Sq (n : Nat) (F : List (List Int)) : Prop := F.length = n ∧ ∀ r ∈ F, r.length = n ∧ ∀ y ∈ r, 0 ≤ y
theorem comI_eq (p : Par) (a b : List Int) (n : Nat) (ha : a.length = n) (hb : b.length = n) : comI p (a, b) = (List.range n).map fun j => commitI p (a[j]?.getD 0, b[j]?.getD 0) := by
  simp [comI, zipU, ha, hb, Function.comp_def]
theorem comsI_eq (p : Par) {F B : List (List Int)} {n : Nat} (hF : F.length = n) (hB : B.length = n) : comsI p F B = (List.range n).map fun i => comI p (F[i]?.getD [], B[i]?.getD []) := by
  simp [comsI, zipS, hF, hB, Function.comp_def]
theorem Sq.row {n : Nat} {F : List (List Int)} (h : Sq n F) {i : Nat} (hi : i < n) : ∃ r, F[i]? = some r ∧ r.length = n ∧ ∀ y ∈ r, 0 ≤ y := by
  have hl : i < F.length := by rw [h.1]; exact hi
  exact ⟨F[i], List.getElem?_eq_getElem hl, h.2 _ (List.getElem_mem hl)⟩
theorem Sq.nn {n : Nat} {F : List (List Int)} (h : Sq n F) (i j : Nat) : 0 ≤ (F[i]?.getD [])[j]?.getD 0 := by
  by_cases hi : i < n
  · obtain ⟨r, hr, hl, hy⟩ := h.row hi
    rw [hr]
    by_cases hj : j < r.length
    · simp only [Option.getD_some, List.getElem?_eq_getElem hj]
      exact hy _ (List.getElem_mem hj)
    · simp [List.getElem?_eq_none (show r.length ≤ j by omega)]
  · simp [List.getElem?_eq_none (show F.length ≤ i by rw [h.1]; omega)]
theorem colZ_range {n : Nat} {F : List (List Int)} (h : F.length = n) (j : Nat) : colZ F j = (List.range n).map fun i => (F[i]?.getD [])[j]?.getD 0 := by
  subst h
  refine List.ext_getElem (by simp [colZ]) fun i h1 h2 => ?_
  have hi : i < F.length := by simpa [colZ] using h1
  simp [colZ, List.getElem?_eq_getElem hi]
theorem wide_sq {n : Nat} (hn : 0 < n) {F : List (List Int)} (h : Sq n F) : wideI F = n := wide_eq F 0 (fun r hr => (h.2 r hr).1) (Nat.zero_le _) (by rintro rfl; have := h.1; simp at this; omega)
theorem coms_rect {p : Par} {F B : List (List Int)} {n : Nat} (hF : Sq n F) (hB : Sq n B) : (comsI p F B).length = n ∧ ∀ r ∈ comsI p F B, r.length = n := by
  rw [comsI_eq p hF.1 hB.1]
  refine ⟨by simp, fun r hr => ?_⟩
  obtain ⟨i, hi, rfl⟩ := List.mem_map.1 hr
  obtain ⟨a, ha, hal, _⟩ := hF.row (List.mem_range.1 hi)
  obtain ⟨b, hb, hbl, _⟩ := hB.row (List.mem_range.1 hi)
  rw [ha, hb]
  simp [comI, zipU, hal, hbl]
theorem rows_law {p : Par} (h : Good p) {n : Nat} (hn : 0 < n) {F B : List (List Int)} (hF : Sq n F) (hB : Sq n B) (x : Int) (hx : 0 ≤ x) : shareI p (turnedI p (comsI p F B)) x = comI p (rowI p.Q F x, rowI p.Q B x) := by
  obtain ⟨hl, hr⟩ := coms_rect (p := p) hF hB
  have hw : wideI (comsI p F B) = n := wide_eq _ 0 hr (Nat.zero_le _) (by intro e; rw [e] at hl; simp at hl; omega)
  rw [comI_eq p _ _ n (by simp [rowI, wide_sq hn hF]) (by simp [rowI, wide_sq hn hB])]
  simp only [shareI, turnedI, hw, List.map_map]
  refine List.map_congr_left fun j hj => ?_
  have hjn := List.mem_range.1 hj
  simp only [Function.comp]
  have e1 : colI p (comsI p F B) j = ((List.range n).map fun i => ((F[i]?.getD [])[j]?.getD 0, (B[i]?.getD [])[j]?.getD 0)).map (commitI p) := by
    rw [comsI_eq p hF.1 hB.1]
    simp only [colI, List.map_map]
    refine List.map_congr_left fun i hi => ?_
    obtain ⟨a, ha, hal, _⟩ := hF.row (List.mem_range.1 hi)
    obtain ⟨b, hb, hbl, _⟩ := hB.row (List.mem_range.1 hi)
    simp only [Function.comp, ha, hb, Option.getD_some]
    rw [comI_eq p a b n hal hbl]
    simp [hjn]
  rw [e1, at_eval h x hx _ (fun y hy => by
    obtain ⟨i, _, rfl⟩ := List.mem_map.1 hy
    exact ⟨hF.nn i j, hB.nn i j⟩)]
  simp only [List.map_map, Function.comp_def]
  rw [← colZ_range hF.1 j, ← colZ_range hB.1 j]
  simp [rowI, wide_sq hn hF, wide_sq hn hB, hjn]
theorem cols_law {p : Par} (h : Good p) {n : Nat} {F B : List (List Int)} (hF : Sq n F) (hB : Sq n B) (y : Int) (hy : 0 ≤ y) : shareI p (comsI p F B) y = comI p (colV p.Q F y, colV p.Q B y) := by
  rw [comI_eq p _ _ n (by simp [colV, hF.1]) (by simp [colV, hB.1]), comsI_eq p hF.1 hB.1]
  simp only [shareI, List.map_map]
  refine List.map_congr_left fun i hi => ?_
  obtain ⟨a, ha, hal, han⟩ := hF.row (List.mem_range.1 hi)
  obtain ⟨b, hb, hbl, hbn⟩ := hB.row (List.mem_range.1 hi)
  simp only [Function.comp, ha, hb, Option.getD_some]
  have e1 : comI p (a, b) = ((List.range n).map fun j => (a[j]?.getD 0, b[j]?.getD 0)).map (commitI p) := by
    rw [comI_eq p a b n hal hbl, List.map_map]
    rfl
  rw [e1, at_eval h y hy _ (fun z hz => by
    obtain ⟨j, hj, rfl⟩ := List.mem_map.1 hz
    have h1 := List.mem_range.1 hj
    rw [List.getElem?_eq_getElem (by omega), List.getElem?_eq_getElem (by omega)]
    exact ⟨han _ (List.getElem_mem _), hbn _ (List.getElem_mem _)⟩)]
  simp only [List.map_map, Function.comp_def]
  rw [map_getD hal, map_getD hbl]
  simp [colV, ha, hb]
theorem is_commit {p : Par} (h : Good p) (x : Int × Int) (_x1 : 0 ≤ x.1) (_x2 : 0 ≤ x.2) : isB p (commitI p x) = true := by
  have hP := may_bds h.P
  have hP2 := h.P2
  have e := commit_eq p x h.P
  have h0 : 0 ≤ commitI p x := by rw [e]; exact Int.emod_nonneg _ (by omega)
  have h1 : commitI p x < p.P := by rw [e]; exact Int.emod_lt_of_pos _ (by omega)
  have hc : Cg p.P (commitI p x ^ p.Q.toNat) 1 := by
    refine ((commit_cg p x h.P).pow _).trans ?_
    rw [Int.mul_pow, ← Int.pow_mul, ← Int.pow_mul, Nat.mul_comm x.1.toNat, Nat.mul_comm x.2.toNat, Int.pow_mul, Int.pow_mul]
    exact ((h.G.pow _).mul (h.H.pow _)).trans (Cg.of_eq (by rw [Int.one_pow, Int.one_pow]; rfl))
  have hp : powI (commitI p x) p.Q p.P = 1 := by
    rw [powI_yes _ _ _ h.P]
    unfold Cg at hc
    rw [hc, Int.emod_eq_of_lt (by decide) (by omega)]
  have hne : commitI p x ≠ 0 := by
    intro e0
    rw [e0] at hc
    have hQ : p.Q.toNat ≠ 0 := by have := h.Q2; omega
    rw [Int.zero_pow hQ] at hc
    unfold Cg at hc
    rw [Int.emod_eq_of_lt (a := 1) (by decide) (by omega)] at hc
    simp at hc
  simp only [isB, hp, Bool.and_eq_true, decide_eq_true_eq, beq_self_eq_true, and_true]
  omega
theorem square_coms {p : Par} (h : Good p) {n S : Nat} (hn : p.T + 1 = (n : Int)) (hS : secretsI p = (S : Int)) {f b : List (List (List Int))} (hf : f.length = S ∧ ∀ F ∈ f, Sq n F) (hb : b.length = S ∧ ∀ B ∈ b, Sq n B) : squareB p (matI p f b) = true := by
  have hw : wrap64 (p.T + 1) = (n : Int) := by have := h.T; unfold wrap64; omega
  have hl : (matI p f b).length = S := by simp [matI, zipS, hf.1, hb.1]
  simp only [squareB, hl, hS, decide_true, Bool.true_and, Bool.not_eq_true']
  rw [List.any_eq_false]
  intro M hM
  simp only [matI, zipS, List.map_map, hf.1, hb.1, Nat.max_self, List.mem_map, List.mem_range, Function.comp] at hM
  obtain ⟨s, hs, rfl⟩ := hM
  have e1 : f[s]? = some f[s] := List.getElem?_eq_getElem (by omega)
  have e2 : b[s]? = some b[s] := List.getElem?_eq_getElem (by omega)
  have hF : Sq n f[s] := hf.2 _ (List.getElem_mem _)
  have hB : Sq n b[s] := hb.2 _ (List.getElem_mem _)
  simp only [e1, e2, Option.getD_some]
  obtain ⟨hl, hr⟩ := coms_rect (p := p) hF hB
  simp only [sqBad, allB, hw, hl, decide_true, Bool.true_and, Bool.not_not]
  simp only [Bool.not_eq_true, List.any_eq_false]
  intro r hr'
  simp only [rowBad, hr r hr', ne_eq, not_true_eq_false, decide_false, Bool.false_or, List.any_eq_false, Bool.not_eq_eq_eq_not, Bool.not_true]
  intro c hc
  rw [comsI_eq p hF.1 hB.1] at hr'
  obtain ⟨i, hi, rfl⟩ := List.mem_map.1 hr'
  obtain ⟨a, ha, hal, han⟩ := hF.row (List.mem_range.1 hi)
  obtain ⟨d, hd, hdl, hdn⟩ := hB.row (List.mem_range.1 hi)
  rw [ha, hd] at hc
  simp only [Option.getD_some] at hc
  rw [comI_eq p a d n hal hdl] at hc
  obtain ⟨j, hj, rfl⟩ := List.mem_map.1 hc
  have h1 := List.mem_range.1 hj
  rw [List.getElem?_eq_getElem (by omega), List.getElem?_eq_getElem (by omega)]
  rw [Option.getD_some, Option.getD_some, is_commit h (a[j], d[j]) (han _ (List.getElem_mem _)) (hdn _ (List.getElem_mem _))]
  simp
theorem rows_all {p : Par} (h : Good p) {n S : Nat} (hn : 0 < n) {f b : List (List (List Int))} (hf : f.length = S ∧ ∀ F ∈ f, Sq n F) (hb : b.length = S ∧ ∀ B ∈ b, Sq n B) (x : Int) (hx : 0 ≤ x) :
    rowComsI p (matI p f b) x = comsI p (f.map fun F => rowI p.Q F x) (b.map fun B => rowI p.Q B x) ∧ colComsI p (matI p f b) x = comsI p (f.map fun F => colV p.Q F x) (b.map fun B => colV p.Q B x) := by
  rw [comsI_eq p (n := S) (by simp [hf.1]) (by simp [hb.1]), comsI_eq p (n := S) (by simp [hf.1]) (by simp [hb.1])]
  simp only [rowComsI, colComsI, matI, zipS, List.map_map, hf.1, hb.1, Nat.max_self]
  refine ⟨List.map_congr_left fun s hs => ?_, List.map_congr_left fun s hs => ?_⟩
  all_goals
    have hs := List.mem_range.1 hs
    have e1 : f[s]? = some f[s] := List.getElem?_eq_getElem (by omega)
    have e2 : b[s]? = some b[s] := List.getElem?_eq_getElem (by omega)
    have hF : Sq n f[s] := hf.2 _ (List.getElem_mem _)
    have hB : Sq n b[s] := hb.2 _ (List.getElem_mem _)
    simp only [Function.comp, List.getElem?_map, e1, e2, Option.getD_some, Option.map_some]
  · exact rows_law h hn hF hB x hx
  · exact cols_law h hF hB x hx
end Go.Proofs.YtiimippmihkgcaaGreatDoor

namespace Go.Proofs.YtiimippmihkgcaaGreatDoor
open Go Go.RowKit

/-- Lists of t numbers, none below 0. -/
def Rect (t : Nat) (F : List (List Int)) : Prop := ∀ r ∈ F, r.length = t ∧ ∀ y ∈ r, 0 ≤ y
def pairsOf (t : Nat) (a b : List Int) : List (Int × Int) := (List.range t).map fun j => (a[j]?.getD 0, b[j]?.getD 0)
theorem pairsOf_fst {t : Nat} {a b : List Int} (h : a.length = t) : (pairsOf t a b).map (·.1) = a := by
  subst h
  refine List.ext_getElem (by simp [pairsOf]) fun j h1 h2 => ?_
  simp [pairsOf, List.getElem?_eq_getElem h2]
theorem pairsOf_snd {t : Nat} {a b : List Int} (h : b.length = t) : (pairsOf t a b).map (·.2) = b := by
  subst h
  refine List.ext_getElem (by simp [pairsOf]) fun j h1 h2 => ?_
  simp [pairsOf, List.getElem?_eq_getElem h2]
theorem pairsOf_pos {t : Nat} {a b : List Int} (ha : ∀ y ∈ a, 0 ≤ y) (hb : ∀ y ∈ b, 0 ≤ y) : ∀ y ∈ pairsOf t a b, 0 ≤ y.1 ∧ 0 ≤ y.2 := by
  have key : ∀ (l : List Int), (∀ y ∈ l, 0 ≤ y) → ∀ j : Nat, (0 : Int) ≤ l[j]?.getD 0 := fun l hl j => by
    rcases Nat.lt_or_ge j l.length with h | h
    · rw [List.getElem?_eq_getElem h]
      exact hl _ (List.getElem_mem h)
    · rw [List.getElem?_eq_none h]
      exact Int.le_refl 0
  intro y hy
  obtain ⟨j, _, rfl⟩ := List.mem_map.1 hy
  exact ⟨key a ha j, key b hb j⟩
theorem comI_pairs (p : Par) {t : Nat} {a b : List Int} (ha : a.length = t) (hb : b.length = t) : comI p (a, b) = (pairsOf t a b).map (commitI p) := by
  simp [comI, zipU, pairsOf, ha, hb, Function.comp_def]
theorem comsI_pairs (p : Par) {F R : List (List Int)} (h : F.length = R.length) : comsI p F R = (List.range F.length).map fun s => comI p (F[s]?.getD [], R[s]?.getD []) := by
  simp [comsI, zipS, h, Function.comp_def]
theorem eval_ev {q : Int} (hq : mayB q = true) (x : Int) (c : List Int) : evZ x c % q = evalI q c x := by
  have h0 := mayB_pos hq
  have hb : 0 ≤ evalI q c x ∧ evalI q c x < q := by
    cases c with
    | nil => exact ⟨Int.le_refl _, h0⟩
    | cons y c =>
      rw [evalI_cons', addI_yes _ _ _ hq]
      exact ⟨Int.emod_nonneg _ (by omega), Int.emod_lt_of_pos _ h0⟩
  have h := (evalI_cg' hq x c).symm
  unfold Cg at h
  rw [h, Int.emod_eq_of_lt hb.1 hb.2]
theorem at_getD {t : Nat} {F : List (List Int)} (h : Rect t F) {s : Nat} (hs : s < F.length) : ∃ r, F[s]? = some r ∧ r.length = t ∧ ∀ y ∈ r, 0 ≤ y := ⟨F[s], List.getElem?_eq_getElem hs, h _ (List.getElem_mem hs)⟩
theorem deal_fits {p : Par} (hm : mayP p = true) {t : Nat} {F R : List (List Int)} (hl : F.length = R.length) (hF : Rect t F) (hR : Rect t R) {i : Int} (hi : 0 ≤ i) : fitsI p (comsI p F R) i (dealtI p F R i) = true := by
  have hg := good_of hm
  have h0 := mayB_pos hg.Q
  unfold fitsI shareI dealtI
  rw [comsI_pairs p hl, List.map_map, List.map_map]
  refine decide_eq_true (List.map_congr_left fun s hs => ?_)
  have hs1 := List.mem_range.1 hs
  obtain ⟨a, ea, la, pa⟩ := at_getD hF hs1
  obtain ⟨b, eb, lb, pb⟩ := at_getD hR (hl ▸ hs1)
  show commitI p (evalI p.Q (F[s]?.getD []) i, evalI p.Q (R[s]?.getD []) i) = atI p (comI p (F[s]?.getD [], R[s]?.getD [])) i
  rw [ea, eb, Option.getD_some, Option.getD_some, comI_pairs p la lb, at_commits hg i hi _ (pairsOf_pos pa pb), valGo_ev hg.Q _ (0, 0) 1 (Int.le_refl 0) h0 (Int.le_refl 0) h0, pairsOf_fst la, pairsOf_snd lb]
  simp only [Int.zero_add, Int.one_mul]
  rw [eval_ev hg.Q, eval_ev hg.Q]
theorem deal_formed {p : Par} (hm : mayP p = true) {t : Nat} (ht : (t : Int) = p.T + 1) {F R : List (List Int)} (hn : (F.length : Int) = secretsI p) (hl : F.length = R.length) (hF : Rect t F) (hR : Rect t R) : formedB p (comsI p F R) = true := by
  have hg := good_of hm
  obtain ⟨_, _, _, _, _, _, t1, t2, _, _, _, _⟩ := may_apart hm
  have hw : IntKind.i64.wrap (p.T + 1) = (t : Int) := by rw [← ht]; exact IntWalk.i64_in _ (by omega)
  unfold formedB allB
  rw [comsI_pairs p hl, hw, ← hn]
  simp only [List.length_map, List.length_range, decide_true, Bool.true_and, Bool.not_eq_true', List.any_eq_false]
  intro r hr
  obtain ⟨s, hs, rfl⟩ := List.mem_map.1 hr
  have hs1 := List.mem_range.1 hs
  obtain ⟨a, ea, la, pa⟩ := at_getD hF hs1
  obtain ⟨b, eb, lb, pb⟩ := at_getD hR (hl ▸ hs1)
  rw [ea, eb, Option.getD_some, Option.getD_some, comI_pairs p la lb]
  simp only [rowBad, List.length_map, Bool.or_eq_true, decide_eq_true_eq, List.any_eq_true, not_or, not_exists, not_and]
  refine ⟨by simp [pairsOf], fun x hx => ?_⟩
  obtain ⟨y, hy, rfl⟩ := List.mem_map.1 hx
  obtain ⟨y1, y2⟩ := pairsOf_pos pa pb y hy
  simp [is_commit' hg y y1 y2]
end Go.Proofs.YtiimippmihkgcaaGreatDoor

namespace Go.Proofs.YtiimippmihkgcaaGreatDoor
open Go Go.RowKit Go.Shelf

theorem dvalue_any (x : Int × Int) (w : World) :
    Calls Tryz.prog 72 #[.agg #[.int .u64 x.1, .int .u64 x.2]] w fun e w' => e = .returned (.int .u64 x.1) ∧ w.grownBy w' none := by
  obtain ⟨a, b⟩ := x
  go_enter Tryz.func72, Tryz.ntmps72
  go_wp2
  go_ret
  exact ⟨rfl, World.grownBy_alloc w _ none⟩
set_option maxHeartbeats 1000000 in
theorem each_dvalue_any (v : Value) (l : List (Int × Int)) (X : Nat → Prop) (w : World) (h : Sl encP X w v l) (hb : l.length ≤ 1000) :
    Calls Tryz.prog 71 #[v, .func (.func 72) #[] #[]] w (Gives encU (fun g => w.heap.size ≤ g) w (l.map (·.1))) := by
  have H := Lib.hid h
  have HB := Lib.hid hb
  obtain ⟨A, c, rfl, hc1, hc2⟩ := h.form
  clear h hb
  go_enter Tryz.func71, Tryz.ntmps71
  go_wp2_with fail
  go_loopg [5, 10] l.length (fun g s5 s10 wx => ∃ j : Nat, j + g = l.length ∧ s10 = .int .i64 j ∧ Hid (Acc encU w.heap.size 22 (fun g => w.heap.size ≤ g) wx s5 ((l.take j).map (·.1)) ∧ w.grownBy wx none))
  case atStart => exact ⟨0, by omega, rfl, Lib.hid ⟨Acc.nil _ _ _ _ _, World.grownBy.refl _ none⟩⟩
  case round =>
    obtain ⟨j, hj, rfl, HX⟩ := hrel
    cases gk with
    | zero =>
      obtain rfl : j = l.length := by omega
      have HR : Hid (Sl encU (fun g => w.heap.size ≤ g) wr u5 (l.map (·.1)) ∧ w.grownBy wr none) := Lib.hid ⟨by have := HX.out.1.sl; rwa [List.take_length] at this, HX.out.2⟩
      clear HX
      go_wp2
      go_ret
      exact ⟨_, rfl, HR.out.1, HR.out.2⟩
    | succ m =>
      have hjn : (j : Int) < (l.length : Int) := by omega
      have hjN : j < l.length := by omega
      obtain ⟨hacc, hg⟩ := HX.out
      obtain ⟨g, o, c', e, _, _, hc0, hc1', hu1, hu2⟩ := (H.out.kept hg).atP hjN
      injection e with e1 e2 e3
      subst e1 e3
      have HSN : Hid ((l.take (j + 1)).map (·.1) = (l.take j).map (·.1) ++ [l[j].1]) := Lib.hid (by rw [List.take_succ_eq_append_getElem hjN, List.map_append]; rfl)
      have HU : Hid (U64 l[j].1) := Lib.hid hu1
      have HAC := Lib.hid hacc
      have HG := Lib.hid hg
      have HLB : Hid ((((l.take j).map (·.1)).length + 1) * 8 ≤ 140737488355328) := Lib.hid (by have := HB.out; simp; omega)
      obtain ⟨y, hy⟩ : ∃ y, y = l[j] := ⟨_, rfl⟩
      rw [← hy] at HSN HU hc0 hc1'
      obtain ⟨wa, hwa⟩ : ∃ y2, y2 = wr.alloc (Obj.cells #[.int .u64 y.1, .int .u64 y.2] 70) := ⟨_, rfl⟩
      have HGA : Hid (wr.grownBy wa none) := Lib.hid (by rw [hwa]; exact World.grownBy_alloc _ _ none)
      have hbx : Bk wa wr.heap.size 70 #[.int .u64 y.1, .int .u64 y.2] := by rw [hwa]; exact Bk.new _ _ _
      have HC := Lib.hid (dvalue_any y wa)
      obtain ⟨ya, yb⟩ := y
      simp only at hc0 hc1' HC HSN HU hwa hbx
      have d0 := hbx.cell 0
      have d1 := hbx.cell 1
      simp at d0 d1
      clear hacc hg HX hu1 hu2 e2 hy hbx
      generalize l.length = n at *
      go_wp2_with fail
      rw [← hwa]
      clear hwa
      refine HC.out.mono ?_
      rintro e w1 ⟨rfl, hg1⟩
      have HG1 : Hid (w.grownBy w1 none) := Lib.hid (HG.out.trans (HGA.out.trans hg1))
      have HAC1 := Lib.hid (HAC.out.kept (HGA.out.trans hg1))
      clear hg1 d0 d1 hc0 hc1'
      go_wp2_with (at_builtin; refine wpList_pushG rfl (.tmp 14) (.tmp 18) rfl (E := encU) (y := ya) el_u64 HG1.out HAC1.out (fun _ h => h) ⟨rfl, HU.out⟩ HLB.out rfl rfl ?_)
      intro v2 w2 hacc2 hg2 hgo
      have HFIN : Hid (Acc encU w.heap.size 22 (fun g => w.heap.size ≤ g) w2 v2 ((l.take (j + 1)).map (·.1)) ∧ w.grownBy w2 none) := Lib.hid ⟨by rw [HSN.out]; simpa using hacc2, hg2⟩
      clear hacc2 hg2 hgo
      go_wp2_with fail
      go_roundg m
      case measure => omega
      case rel => exact ⟨j + 1, by omega, by go_num, HFIN⟩
theorem dblinder_any (x : Int × Int) (w : World) :
    Calls Tryz.prog 73 #[.agg #[.int .u64 x.1, .int .u64 x.2]] w fun e w' => e = .returned (.int .u64 x.2) ∧ w.grownBy w' none := by
  obtain ⟨a, b⟩ := x
  go_enter Tryz.func73, Tryz.ntmps73
  go_wp2
  go_ret
  exact ⟨rfl, World.grownBy_alloc w _ none⟩
set_option maxHeartbeats 1000000 in
theorem each_dblinder_any (v : Value) (l : List (Int × Int)) (X : Nat → Prop) (w : World) (h : Sl encP X w v l) (hb : l.length ≤ 1000) :
    Calls Tryz.prog 71 #[v, .func (.func 73) #[] #[]] w (Gives encU (fun g => w.heap.size ≤ g) w (l.map (·.2))) := by
  have H := Lib.hid h
  have HB := Lib.hid hb
  obtain ⟨A, c, rfl, hc1, hc2⟩ := h.form
  clear h hb
  go_enter Tryz.func71, Tryz.ntmps71
  go_wp2_with fail
  go_loopg [5, 10] l.length (fun g s5 s10 wx => ∃ j : Nat, j + g = l.length ∧ s10 = .int .i64 j ∧ Hid (Acc encU w.heap.size 22 (fun g => w.heap.size ≤ g) wx s5 ((l.take j).map (·.2)) ∧ w.grownBy wx none))
  case atStart => exact ⟨0, by omega, rfl, Lib.hid ⟨Acc.nil _ _ _ _ _, World.grownBy.refl _ none⟩⟩
  case round =>
    obtain ⟨j, hj, rfl, HX⟩ := hrel
    cases gk with
    | zero =>
      obtain rfl : j = l.length := by omega
      have HR : Hid (Sl encU (fun g => w.heap.size ≤ g) wr u5 (l.map (·.2)) ∧ w.grownBy wr none) := Lib.hid ⟨by have := HX.out.1.sl; rwa [List.take_length] at this, HX.out.2⟩
      clear HX
      go_wp2
      go_ret
      exact ⟨_, rfl, HR.out.1, HR.out.2⟩
    | succ m =>
      have hjn : (j : Int) < (l.length : Int) := by omega
      have hjN : j < l.length := by omega
      obtain ⟨hacc, hg⟩ := HX.out
      obtain ⟨g, o, c', e, _, _, hc0, hc1', hu1, hu2⟩ := (H.out.kept hg).atP hjN
      injection e with e1 e2 e3
      subst e1 e3
      have HSN : Hid ((l.take (j + 1)).map (·.2) = (l.take j).map (·.2) ++ [l[j].2]) := Lib.hid (by rw [List.take_succ_eq_append_getElem hjN, List.map_append]; rfl)
      have HU : Hid (U64 l[j].2) := Lib.hid hu2
      have HAC := Lib.hid hacc
      have HG := Lib.hid hg
      have HLB : Hid ((((l.take j).map (·.2)).length + 1) * 8 ≤ 140737488355328) := Lib.hid (by have := HB.out; simp; omega)
      obtain ⟨y, hy⟩ : ∃ y, y = l[j] := ⟨_, rfl⟩
      rw [← hy] at HSN HU hc0 hc1'
      obtain ⟨wa, hwa⟩ : ∃ y2, y2 = wr.alloc (Obj.cells #[.int .u64 y.1, .int .u64 y.2] 70) := ⟨_, rfl⟩
      have HGA : Hid (wr.grownBy wa none) := Lib.hid (by rw [hwa]; exact World.grownBy_alloc _ _ none)
      have hbx : Bk wa wr.heap.size 70 #[.int .u64 y.1, .int .u64 y.2] := by rw [hwa]; exact Bk.new _ _ _
      have HC := Lib.hid (dblinder_any y wa)
      obtain ⟨ya, yb⟩ := y
      simp only at hc0 hc1' HC HSN HU hwa hbx
      have d0 := hbx.cell 0
      have d1 := hbx.cell 1
      simp at d0 d1
      clear hacc hg HX hu1 hu2 e2 hy hbx
      generalize l.length = n at *
      go_wp2_with fail
      rw [← hwa]
      clear hwa
      refine HC.out.mono ?_
      rintro e w1 ⟨rfl, hg1⟩
      have HG1 : Hid (w.grownBy w1 none) := Lib.hid (HG.out.trans (HGA.out.trans hg1))
      have HAC1 := Lib.hid (HAC.out.kept (HGA.out.trans hg1))
      clear hg1 d0 d1 hc0 hc1'
      go_wp2_with (at_builtin; refine wpList_pushG rfl (.tmp 14) (.tmp 18) rfl (E := encU) (y := yb) el_u64 HG1.out HAC1.out (fun _ h => h) ⟨rfl, HU.out⟩ HLB.out rfl rfl ?_)
      intro v2 w2 hacc2 hg2 hgo
      have HFIN : Hid (Acc encU w.heap.size 22 (fun g => w.heap.size ≤ g) w2 v2 ((l.take (j + 1)).map (·.2)) ∧ w.grownBy w2 none) := Lib.hid ⟨by rw [HSN.out]; simpa using hacc2, hg2⟩
      clear hacc2 hg2 hgo
      go_wp2_with fail
      go_roundg m
      case measure => omega
      case rel => exact ⟨j + 1, by omega, by go_num, HFIN⟩
/-- What a list of coefficients tells at a place. -/
def atP (q x : Int) (c : List (Int × Int)) : Int × Int := (evalI q (c.map (·.1)) x, evalI q (c.map (·.2)) x)
theorem results_pair {fn : Func} {W : World} {B4 : Nat} {a b : Value} (h : fn.results = #[.cell 4 70]) (tmps : Array Value) (h4 : tmps.getD 4 undef = .pointer (some ⟨B4, 0, none⟩)) (hb4 : Bk W B4 70 #[a, b]) : (results fn tmps).run Tryz.prog W = .ok (.agg #[a, b]) W := by
  have r1 := run_loadVar_row (P := Tryz.prog) W B4 70 70 #[a, b] (0, 0) _ hb4 Tryz.underlying70 rfl (by kernel_rfl)
  have h4' : tmps[4]?.getD undef = .pointer (some ⟨B4, 0, none⟩) := by simpa using h4
  simp [results, h, h4', asAddr, r1]
set_option maxRecDepth 100000 in
set_option maxHeartbeats 2000000 in
theorem atOne_any (v : Value) (c : List (Int × Int)) (x q : Int) (Bx Bq : Nat) (X : Nat → Prop) (w : World) (h : Sl encP X w v c) (hx : U64 x) (hb : c.length ≤ 1000) (bx : Bk w Bx 22 #[.int .u64 x]) (bq : Bk w Bq 22 #[.int .u64 q]) :
    Calls Tryz.prog 70 #[v, .pointer (some ⟨Bx, 0, none⟩), .pointer (some ⟨Bq, 0, none⟩)] w fun e w' => e = .returned (.agg #[.int .u64 (atP q x c).1, .int .u64 (atP q x c).2]) ∧ w.grownBy w' none := by
  have H := Lib.hid h
  have HU := Lib.hid hx
  have HBX := Lib.hid bx
  have HBQ := Lib.hid bq
  have HB := Lib.hid hb
  obtain ⟨A, cc, rfl, _, _⟩ := h.form
  obtain ⟨w0, hw0⟩ : ∃ y, y = w.alloc (Obj.cells #[.int .u64 0, .int .u64 0] 70) := ⟨_, rfl⟩
  obtain ⟨B0, hB0⟩ : ∃ y, y = w.heap.size := ⟨_, rfl⟩
  have HG0 : Hid (w.grownBy w0 none) := Lib.hid (by rw [hw0]; exact World.grownBy_alloc _ _ none)
  have HBR : Hid (Bk w0 B0 70 #[.int .u64 0, .int .u64 0]) := Lib.hid (by rw [hw0, hB0]; exact Bk.new _ _ _)
  have HBE : Hid (w.heap.size ≤ B0) := Lib.hid (by rw [hB0]; exact Nat.le_refl _)
  clear h hx bx bq hb
  go_enter Tryz.func70, Tryz.ntmps70
  go_upto_region 1 with (fail)
  rw [← hw0, ← hB0]
  clear hw0 hB0
  have HD : Hid (w0.grownBy w0.drew none) := Lib.hid (grown_drewN' _ 1)
  have HLD : Hid (∀ W, w0.drew.grownBy W none → W.cell? ⟨Bx, 0, none⟩ = some (.int .u64 x) ∧ W.cell? ⟨Bq, 0, none⟩ = some (.int .u64 q)) := Lib.hid (fun W hg => by
    have h := HG0.out.trans (HD.out.trans hg)
    exact ⟨by simpa using (HBX.out.grown h (by simp)).cell 0, by simpa using (HBQ.out.grown h (by simp)).cell 0⟩)
  have HEV : Hid (∀ W, w0.drew.grownBy W none → Calls Tryz.prog 71 #[.slice A c.length cc, .func (.func 72) #[] #[]] W (Gives encU (fun g => W.heap.size ≤ g) W (c.map (·.1)))) := Lib.hid (fun W hg => each_dvalue_any _ c X W (H.out.kept (HG0.out.trans (HD.out.trans hg))) HB.out)
  have HEB : Hid (∀ W, w0.drew.grownBy W none → Calls Tryz.prog 71 #[.slice A c.length cc, .func (.func 73) #[] #[]] W (Gives encU (fun g => W.heap.size ≤ g) W (c.map (·.2)))) := Lib.hid (fun W hg => each_dblinder_any _ c X W (H.out.kept (HG0.out.trans (HD.out.trans hg))) HB.out)
  refine wp_region_mono 11 (by kernel_rfl) (by kernel_rfl) ?_
  -- op 0 (slot 5): move
  refine MonoR.step (Pv.eq (.slice A c.length cc)) [] (by kernel_rfl) (fun w' hw' => ?_) ?_
  · refine ask_do rfl fun K hK => ?_
    go_simp
    exact hK _ _ rfl rfl (World.grownBy.refl _ none)
  -- op 1 (slot 6): call
  refine MonoR.step (Pv.sl encU TT (c.map (·.1))) [(0, 5)] (by kernel_rfl) (fun w' hw' => ?_) ?_
  · rintro _ rfl
    refine ask_do rfl fun K hK => ?_
    go_simp
    refine (HEV.out w' hw').mono ?_
    rintro e w3 ⟨v3, rfl, hs3, hg3⟩
    exact hK _ _ rfl (hs3.more fun _ _ _ => trivial) hg3
  -- op 2 (slot 7): load
  refine MonoR.step (Pv.eq (.int .u64 x)) [] (by kernel_rfl) (fun w' hw' => ?_) ?_
  · refine ask_do rfl fun K hK => ?_
    obtain ⟨q0, q1⟩ := HLD.out w' hw'
    go_simp
    exact hK _ _ rfl rfl (World.grownBy.refl _ none)
  -- op 3 (slot 8): load
  refine MonoR.step (Pv.eq (.int .u64 q)) [] (by kernel_rfl) (fun w' hw' => ?_) ?_
  · refine ask_do rfl fun K hK => ?_
    obtain ⟨q0, q1⟩ := HLD.out w' hw'
    go_simp
    exact hK _ _ rfl rfl (World.grownBy.refl _ none)
  -- op 4 (slot 9): call
  refine MonoR.step (Pv.eq (.int .u64 (evalI q (c.map (·.1)) x))) [(1, 6), (2, 7), (3, 8)] (by kernel_rfl) (fun w' hw' => ?_) ?_
  · intro x6 h6
    have h6 : Sl encU TT w' x6 (c.map (·.1)) := h6
    rintro _ rfl
    rintro _ rfl
    refine ask_do rfl fun K hK => ?_
    go_simp
    refine (eval_any x6 (c.map (·.1)) x q TT w' h6 HU.out).mono ?_
    rintro e w3 ⟨rfl, hg3⟩
    exact hK _ _ rfl rfl hg3
  -- op 5 (slot 10): move
  refine MonoR.step (Pv.eq (.slice A c.length cc)) [] (by kernel_rfl) (fun w' hw' => ?_) ?_
  · refine ask_do rfl fun K hK => ?_
    go_simp
    exact hK _ _ rfl rfl (World.grownBy.refl _ none)
  -- op 6 (slot 11): call
  refine MonoR.step (Pv.sl encU TT (c.map (·.2))) [(5, 10)] (by kernel_rfl) (fun w' hw' => ?_) ?_
  · rintro _ rfl
    refine ask_do rfl fun K hK => ?_
    go_simp
    refine (HEB.out w' hw').mono ?_
    rintro e w3 ⟨v3, rfl, hs3, hg3⟩
    exact hK _ _ rfl (hs3.more fun _ _ _ => trivial) hg3
  -- op 7 (slot 12): load
  refine MonoR.step (Pv.eq (.int .u64 x)) [] (by kernel_rfl) (fun w' hw' => ?_) ?_
  · refine ask_do rfl fun K hK => ?_
    obtain ⟨q0, q1⟩ := HLD.out w' hw'
    go_simp
    exact hK _ _ rfl rfl (World.grownBy.refl _ none)
  -- op 8 (slot 13): load
  refine MonoR.step (Pv.eq (.int .u64 q)) [] (by kernel_rfl) (fun w' hw' => ?_) ?_
  · refine ask_do rfl fun K hK => ?_
    obtain ⟨q0, q1⟩ := HLD.out w' hw'
    go_simp
    exact hK _ _ rfl rfl (World.grownBy.refl _ none)
  -- op 9 (slot 14): call
  refine MonoR.step (Pv.eq (.int .u64 (evalI q (c.map (·.2)) x))) [(6, 11), (7, 12), (8, 13)] (by kernel_rfl) (fun w' hw' => ?_) ?_
  · intro x11 h11
    have h11 : Sl encU TT w' x11 (c.map (·.2)) := h11
    rintro _ rfl
    rintro _ rfl
    refine ask_do rfl fun K hK => ?_
    go_simp
    refine (eval_any x11 (c.map (·.2)) x q TT w' h11 HU.out).mono ?_
    rintro e w3 ⟨rfl, hg3⟩
    exact hK _ _ rfl rfl hg3
  -- op 10 (slot 15): build
  refine MonoR.step (Pv.eq (.agg #[.int .u64 (evalI q (c.map (·.1)) x), .int .u64 (evalI q (c.map (·.2)) x)])) [(4, 9), (9, 14)] (by kernel_rfl) (fun w' hw' => ?_) ?_
  · rintro _ rfl
    rintro _ rfl
    refine ask_do rfl fun K hK => ?_
    go_simp
    exact hK _ _ rfl rfl (World.grownBy.refl _ none)
  

  intro w3 hw3
  intro y0 k0 y1 k1 y2 k2 y3 k3 y4 k4 y5 k5 y6 k6 y7 k7 y8 k8 y9 k9 y10 k10
  show wpList Tryz.prog _ _ _ _ w3
  simp only [Act.put, List.setIfInBounds_toArray, List.set_cons_zero, List.set_cons_succ]
  have e10 : y10 = .agg #[.int .u64 (evalI q (c.map (·.1)) x), .int .u64 (evalI q (c.map (·.2)) x)] := k10
  subst e10
  have hb3 : Bk w3 B0 70 #[.int .u64 0, .int .u64 0] := HBR.out.grown (HD.out.trans hw3) (by simp)
  have d0 := hb3.cell 0
  have d1 := hb3.cell 1
  have f3 := hb3.free
  simp at d0 d1
  have HR : Hid (Bk ((w3.setCell ⟨B0, 0, none⟩ (.int .u64 (evalI q (c.map (·.1)) x))).setCell ⟨B0, 1, none⟩ (.int .u64 (evalI q (c.map (·.2)) x))) B0 70 #[.int .u64 (evalI q (c.map (·.1)) x), .int .u64 (evalI q (c.map (·.2)) x)]) := Lib.hid ((hb3.set 0 _).set 1 _)
  have HGF : Hid (w.grownBy ((w3.setCell ⟨B0, 0, none⟩ (.int .u64 (evalI q (c.map (·.1)) x))).setCell ⟨B0, 1, none⟩ (.int .u64 (evalI q (c.map (·.2)) x))) none) := Lib.hid (grownSetUp (grownSetUp (HG0.out.trans (HD.out.trans hw3)) 0 _ HBE.out) 1 _ HBE.out)
  clear hw3 hb3 k0 k1 k2 k3 k4 k5 k6 k7 k8 k9 k10 HLD HEV HEB
  go_wp2_with fail
  exact ⟨rfl, _, results_pair rfl _ rfl HR.out, rfl, HGF.out⟩
set_option maxRecDepth 100000 in
set_option maxHeartbeats 2000000 in
theorem eachAt_any (v : Value) (L : List (List (Int × Int))) (x q : Int) (Bx Bq : Nat) (X : Nat → Prop) (w : World) (h : Sl (encS encP) X w v L) (hx : U64 x) (hb : L.length ≤ 1000) (hb2 : ∀ c ∈ L, c.length ≤ 1000) (bx : Bk w Bx 22 #[.int .u64 x]) (bq : Bk w Bq 22 #[.int .u64 q]) :
    Calls Tryz.prog 69 #[v, .func (.func 70) #[] #[.pointer (some ⟨Bx, 0, none⟩), .pointer (some ⟨Bq, 0, none⟩)]] w (Gives encP (fun g => w.heap.size ≤ g) w (L.map (atP q x))) := by
  have H := Lib.hid h
  have HB := Lib.hid hb
  have HB2 := Lib.hid hb2
  have HU := Lib.hid hx
  have HBX := Lib.hid bx
  have HBQ := Lib.hid bq
  obtain ⟨A, c, rfl, hc1, hc2⟩ := h.form
  clear h hb hb2 hx bx bq
  go_enter Tryz.func69, Tryz.ntmps69
  go_wp2_with fail
  go_loopg [5, 10] L.length (fun g s5 s10 wx => ∃ j : Nat, j + g = L.length ∧ s10 = .int .i64 j ∧ Hid (Acc encP w.heap.size 70 (fun g => w.heap.size ≤ g) wx s5 ((L.take j).map (atP q x)) ∧ w.grownBy wx none))
  case atStart => exact ⟨0, by omega, rfl, Lib.hid ⟨Acc.nil _ _ _ _ _, World.grownBy.refl _ none⟩⟩
  case round =>
    obtain ⟨j, hj, rfl, HX⟩ := hrel
    cases gk with
    | zero =>
      obtain rfl : j = L.length := by omega
      have HR : Hid (Sl encP (fun g => w.heap.size ≤ g) wr u5 (L.map (atP q x)) ∧ w.grownBy wr none) := Lib.hid ⟨by have := HX.out.1.sl; rwa [List.take_length] at this, HX.out.2⟩
      clear HX
      go_wp2
      go_ret
      exact ⟨_, rfl, HR.out.1, HR.out.2⟩
    | succ m =>
      have hjn : (j : Int) < (L.length : Int) := by omega
      have hjN : j < L.length := by omega
      obtain ⟨hacc, hg⟩ := HX.out
      obtain ⟨g, o, c', u, e, _, _, hcu, hu⟩ := (H.out.kept hg).atS hjN
      injection e with e1 e2 e3
      subst e1 e3
      have HSN : Hid ((L.take (j + 1)).map (atP q x) = (L.take j).map (atP q x) ++ [atP q x L[j]]) := Lib.hid (by rw [List.take_succ_eq_append_getElem hjN, List.map_append]; rfl)
      have HC := Lib.hid (atOne_any u L[j] x q Bx Bq _ wr hu HU.out (HB2.out _ (List.getElem_mem hjN)) (HBX.out.grown hg (by simp)) (HBQ.out.grown hg (by simp)))
      have HAC := Lib.hid hacc
      have HG := Lib.hid hg
      have HLB : Hid ((((L.take j).map (atP q x)).length + 1) * 16 ≤ 140737488355328) := Lib.hid (by have := HB.out; simp; omega)
      have HU2 : Hid (U64 (atP q x L[j]).1 ∧ U64 (atP q x L[j]).2) := Lib.hid ⟨evalI_U64 _ _ _, evalI_U64 _ _ _⟩
      obtain ⟨A1, n1, c1, e1⟩ := hu.shape
      subst e1
      obtain ⟨y, hy⟩ : ∃ y, y = atP q x L[j] := ⟨_, rfl⟩
      rw [← hy] at HSN HC HU2
      obtain ⟨ya, yb⟩ := y
      clear hacc hg HX hu e2 hy
      generalize hLn : L.length = n at *
      clear hLn
      go_wp2_with fail
      refine HC.out.mono ?_
      rintro e w1 ⟨rfl, hg1⟩
      have HG1 : Hid (w.grownBy w1 none) := Lib.hid (HG.out.trans hg1)
      have HAC1 := Lib.hid (HAC.out.kept hg1)
      clear hg1 hcu
      go_wp2_with (at_builtin; refine wpList_pushG rfl (.tmp 14) (.tmp 18) rfl (E := encP) (y := (ya, yb)) el_pair HG1.out HAC1.out (fun _ h => h) ⟨rfl, HU2.out.1, HU2.out.2⟩ HLB.out rfl rfl ?_)
      intro v2 w2 hacc2 hg2 hgo
      have HFIN : Hid (Acc encP w.heap.size 70 (fun g => w.heap.size ≤ g) w2 v2 ((L.take (j + 1)).map (atP q x)) ∧ w.grownBy w2 none) := Lib.hid ⟨by rw [HSN.out]; simpa using hacc2, hg2⟩
      clear hacc2 hg2 hgo
      go_wp2_with fail
      go_roundg m
      case measure => omega
      case rel => exact ⟨j + 1, by omega, by go_num, HFIN⟩
theorem dat_any (v : Value) (L : List (List (Int × Int))) (x q : Int) (X : Nat → Prop) (w : World) (h : Sl (encS encP) X w v L) (hx : U64 x) (hb : L.length ≤ 1000) (hb2 : ∀ c ∈ L, c.length ≤ 1000) :
    Calls Tryz.prog 15 #[v, .int .u64 x, .int .u64 q] w (Gives encP (fun g => w.heap.size ≤ g) w (L.map (atP q x))) := by
  obtain ⟨w0, hw0⟩ : ∃ y, y = (w.alloc (Obj.cells #[.int .u64 x] 22)).alloc (Obj.cells #[.int .u64 q] 22) := ⟨_, rfl⟩
  have HG0 : Hid (w.grownBy w0 none) := Lib.hid (by rw [hw0]; exact grown_two)
  have HB1 : Hid (Bk w0 w.heap.size 22 #[.int .u64 x]) := Lib.hid (by rw [hw0]; exact (Bk.new w _ _).alloc _)
  have HB2 : Hid (Bk w0 (w.heap.size + 1) 22 #[.int .u64 q]) := Lib.hid (by
    rw [hw0]
    have h := Bk.new (w.alloc (Obj.cells #[.int .u64 x] 22)) 22 #[.int .u64 q]
    rw [World.size_alloc] at h
    exact h)
  have HC := Lib.hid (eachAt_any v L x q w.heap.size (w.heap.size + 1) X w0 (h.kept HG0.out) hx hb hb2 HB1.out HB2.out)
  obtain ⟨A, c, rfl, _, _⟩ := h.form
  clear h
  go_enter Tryz.func15, Tryz.ntmps15
  go_wp2_with fail
  rw [← hw0]
  clear hw0
  refine HC.out.mono ?_
  rintro e w1 ⟨v1, rfl, hs1, hg1⟩
  have HR : Hid (Sl encP (fun g => w.heap.size ≤ g) w1 v1 (L.map (atP q x)) ∧ w.grownBy w1 none) := Lib.hid ⟨hs1.more fun g _ h => Nat.le_trans HG0.out.size h, HG0.out.trans hg1⟩
  clear hs1 hg1
  go_wp2
  go_ret
  exact ⟨_, rfl, HR.out.1, HR.out.2⟩
end Go.Proofs.YtiimippmihkgcaaGreatDoor

namespace Go.Proofs.YtiimippmihkgcaaGreatDoor
open Go Go.RowKit

theorem polyZ_snoc (x : Int) (y : Int) : ∀ l : List Int, polyZ x (l ++ [y]) = polyZ x l + x ^ l.length * y
  | [] => by simp [polyZ]
  | a :: l => by
    simp only [List.cons_append, polyZ, List.length_cons]
    rw [polyZ_snoc x y l, Int.pow_succ]
    grind
theorem polyZ_range (x : Int) (f : Nat → Int) (n : Nat) : polyZ x ((List.range (n + 1)).map f) = polyZ x ((List.range n).map f) + x ^ n * f n := by
  rw [hsnoc, polyZ_snoc]
  simp
theorem polyZ_zero (x : Int) : ∀ n : Nat, polyZ x ((List.range n).map fun _ => 0) = 0
  | 0 => rfl
  | n + 1 => by rw [polyZ_range, polyZ_zero x n]; simp
theorem polyZ_add (x c : Int) (f g : Nat → Int) : ∀ n : Nat, polyZ x ((List.range n).map fun k => f k + c * g k) = polyZ x ((List.range n).map f) + c * polyZ x ((List.range n).map g)
  | 0 => by simp [polyZ]
  | n + 1 => by
    rw [polyZ_range, polyZ_range, polyZ_range, polyZ_add x c f g n]
    grind
/-- The sums over rows and columns may be taken in either order. -/
theorem polyZ_swap (x y : Int) (a : Nat → Nat → Int) (m : Nat) : ∀ n : Nat, polyZ x ((List.range n).map fun k => polyZ y ((List.range m).map fun i => a i k)) = polyZ y ((List.range m).map fun i => polyZ x ((List.range n).map fun k => a i k))
  | 0 => (polyZ_zero y m).symm
  | n + 1 => by
    rw [polyZ_range, polyZ_swap x y a m n]
    have e : ((List.range m).map fun i => polyZ x ((List.range (n + 1)).map fun k => a i k)) = (List.range m).map fun i => polyZ x ((List.range n).map fun k => a i k) + x ^ n * a i n := List.map_congr_left fun i _ => polyZ_range x _ n
    rw [e, polyZ_add]
theorem polyZ_cg {q : Int} (x : Int) (f g : Nat → Int) : ∀ n : Nat, (∀ k, k < n → Cg q (f k) (g k)) → Cg q (polyZ x ((List.range n).map f)) (polyZ x ((List.range n).map g))
  | 0, _ => Cg.refl _ _
  | n + 1, h => by
    rw [polyZ_range, polyZ_range]
    exact (polyZ_cg x f g n fun k hk => h k (by omega)).add ((h n (by omega)).mul_left _)
theorem list_range {l : List Int} {n : Nat} (h : l.length = n) : l = (List.range n).map fun k => l[k]?.getD 0 := by
  subst h
  refine List.ext_getElem (by simp) fun i h1 h2 => ?_
  simp [List.getElem?_eq_getElem h1]
theorem eval_eq {q : Int} (hq : mayB q = true) {a b : List Int} {x y : Int} (h : Cg q (polyZ x a) (polyZ y b)) : evalI q a x = evalI q b y := by
  have h1 := evalI_bd hq a x
  have h2 := evalI_bd hq b y
  have h3 : Cg q (evalI q a x) (evalI q b y) := ((evalI_cg hq x a).trans h).trans (evalI_cg hq y b).symm
  unfold Cg at h3
  rwa [Int.emod_eq_of_lt h1.1 h1.2, Int.emod_eq_of_lt h2.1 h2.2] at h3
theorem mat_at {t : Nat} {M : List (List Int)} (h : SqL t M) {i : Nat} (hi : i < t) : ∃ r, M[i]? = some r ∧ r.length = t := by
  have hl : i < M.length := by rw [h.1]; exact hi
  exact ⟨M[i], List.getElem?_eq_getElem hl, h.2 _ (List.getElem_mem hl)⟩
theorem rowI_sq {t : Nat} {M : List (List Int)} (h : SqL t M) (q x : Int) : rowI q M x = (List.range t).map fun k => evalI q ((List.range t).map fun i => (M[i]?.getD [])[k]?.getD 0) x := by
  unfold rowI
  rw [wide_sqL h]
  refine List.map_congr_left fun k _ => ?_
  rw [colZ_range h.1]
theorem colV_sq {t : Nat} {M : List (List Int)} (h : SqL t M) (q y : Int) : colV q M y = (List.range t).map fun i => evalI q ((List.range t).map fun k => (M[i]?.getD [])[k]?.getD 0) y := by
  refine List.ext_getElem (by simp [colV, h.1]) fun i h1 h2 => ?_
  have hi : i < t := by simpa using h2
  have hl : i < M.length := by rw [h.1]; exact hi
  simp only [colV, List.getElem_map, List.getElem_range]
  obtain ⟨r, hr, hrl⟩ := mat_at h hi
  have e : M[i] = r := by
    have := List.getElem?_eq_getElem hl
    rw [hr] at this
    injection this with this
    exact this.symm
  rw [e, hr, Option.getD_some, ← list_range hrl]
/-- A row at y is the column of y at the row's place. -/
theorem row_col {q : Int} (hq : mayB q = true) {t : Nat} {M : List (List Int)} (h : SqL t M) (x y : Int) : evalI q (rowI q M x) y = evalI q (colV q M y) x := by
  rw [rowI_sq h, colV_sq h]
  refine eval_eq hq ?_
  refine (polyZ_cg y _ (fun k => polyZ x ((List.range t).map fun i => (M[i]?.getD [])[k]?.getD 0)) t fun k _ => evalI_cg hq _ _).trans ?_
  rw [polyZ_swap y x (fun i k => (M[i]?.getD [])[k]?.getD 0) t t]
  exact (polyZ_cg x _ (fun i => polyZ y ((List.range t).map fun k => (M[i]?.getD [])[k]?.getD 0)) t fun i _ => evalI_cg hq _ _).symm
theorem zipP_fst {a b : List Int} {n : Nat} (h : a.length = n) : (zipP a b n).map (·.1) = a := pairsOf_fst h
theorem zipP_snd {a b : List Int} {n : Nat} (h : b.length = n) : (zipP a b n).map (·.2) = b := pairsOf_snd h
theorem atP_zip {q x : Int} {a b : List Int} {n : Nat} (ha : a.length = n) (hb : b.length = n) : atP q x (zipP a b n) = (evalI q a x, evalI q b x) := by
  unfold atP
  rw [zipP_fst ha, zipP_snd hb]
/-- What a dealing's squares are. -/
structure Squares (q : Int) (t S : Nat) (F B : List (List (List Int))) : Prop where
  f : F.length = S ∧ ∀ M ∈ F, Sq t M
  b : B.length = S ∧ ∀ M ∈ B, Sq t M
theorem Sq.l {t : Nat} {M : List (List Int)} (h : Sq t M) : SqL t M := ⟨h.1, fun c hc => (h.2 c hc).1⟩
section
variable {q : Int} {t S : Nat} {F B : List (List (List Int))}
theorem Squares.atF (h : Squares q t S F B) {s : Nat} (hs : s < S) : ∃ M, F[s]? = some M ∧ Sq t M := by
  have hl : s < F.length := by rw [h.f.1]; exact hs
  exact ⟨F[s], List.getElem?_eq_getElem hl, h.f.2 _ (List.getElem_mem hl)⟩
theorem Squares.atB (h : Squares q t S F B) {s : Nat} (hs : s < S) : ∃ M, B[s]? = some M ∧ Sq t M := by
  have hl : s < B.length := by rw [h.b.1]; exact hs
  exact ⟨B[s], List.getElem?_eq_getElem hl, h.b.2 _ (List.getElem_mem hl)⟩
/-- Rows and columns meet. -/
theorem meets_law (hq : mayB q = true) (h : Squares q t S F B) (j m : Int) : (rowsP q F B t j).map (atP q m) = (colsP q F B t m).map (atP q j) := by
  unfold rowsP colsP
  rw [List.map_map, List.map_map]
  refine List.map_congr_left fun s hs => ?_
  have hs1 : s < S := by rw [← h.f.1]; exact List.mem_range.1 hs
  obtain ⟨M, e1, s1⟩ := h.atF hs1
  obtain ⟨R, e2, s2⟩ := h.atB hs1
  show atP q m (rowP q F B t j s) = atP q j (colP q F B t m s)
  unfold rowP colP
  rw [e1, e2, Option.getD_some, Option.getD_some, atP_zip (rowI_sqL s1.l _ _) (rowI_sqL s2.l _ _), atP_zip (colV_sqL s1.l _ _) (colV_sqL s2.l _ _), row_col hq s1.l, row_col hq s2.l]
theorem rowI_pos (hq : mayB q = true) (M : List (List Int)) (x : Int) : ∀ y ∈ rowI q M x, 0 ≤ y := fun y hy => by
  obtain ⟨k, _, rfl⟩ := List.mem_map.1 hy
  exact (evalI_bd hq _ _).1
theorem colV_pos (hq : mayB q = true) (M : List (List Int)) (x : Int) : ∀ y ∈ colV q M x, 0 ≤ y := fun y hy => by
  obtain ⟨k, _, rfl⟩ := List.mem_map.1 hy
  exact (evalI_bd hq _ _).1
theorem meet_getD {α β : Type} (f : α → β) (l : List α) (s : Nat) (a : α) (b : β) (hs : s < l.length) : (l.map f)[s]?.getD b = f (l[s]?.getD a) := by simp [hs]
end
section
variable {p : Par} {t S : Nat} {F B : List (List (List Int))}
theorem rows_coms (hg : Good p) (ht : 0 < t) (h : Squares p.Q t S F B) {x : Int} (hx : 0 ≤ x) : rowComsI p (matI p F B) x = (rowsP p.Q F B t x).map fun c => c.map (commitI p) := by
  rw [(rows_all hg ht h.f h.b x hx).1, comsI_pairs p (by rw [List.length_map, List.length_map, h.f.1, h.b.1])]
  unfold rowsP
  rw [List.map_map, List.length_map]
  refine List.map_congr_left fun s hs => ?_
  have hs1 := List.mem_range.1 hs
  have hs2 : s < S := by rw [← h.f.1]; exact hs1
  obtain ⟨M, e1, s1⟩ := h.atF hs2
  obtain ⟨R, e2, s2⟩ := h.atB hs2
  show comI p ((F.map fun F => rowI p.Q F x)[s]?.getD [], (B.map fun B => rowI p.Q B x)[s]?.getD []) = (rowP p.Q F B t x s).map (commitI p)
  unfold rowP
  rw [List.getElem?_map, List.getElem?_map, e1, e2]
  exact comI_pairs p (rowI_sqL s1.l _ _) (rowI_sqL s2.l _ _)
theorem cols_coms (hg : Good p) (ht : 0 < t) (h : Squares p.Q t S F B) {x : Int} (hx : 0 ≤ x) : colComsI p (matI p F B) x = (colsP p.Q F B t x).map fun c => c.map (commitI p) := by
  rw [(rows_all hg ht h.f h.b x hx).2, comsI_pairs p (by rw [List.length_map, List.length_map, h.f.1, h.b.1])]
  unfold colsP
  rw [List.map_map, List.length_map]
  refine List.map_congr_left fun s hs => ?_
  have hs1 := List.mem_range.1 hs
  have hs2 : s < S := by rw [← h.f.1]; exact hs1
  obtain ⟨M, e1, s1⟩ := h.atF hs2
  obtain ⟨R, e2, s2⟩ := h.atB hs2
  show comI p ((F.map fun F => colV p.Q F x)[s]?.getD [], (B.map fun B => colV p.Q B x)[s]?.getD []) = (colP p.Q F B t x s).map (commitI p)
  unfold colP
  rw [List.getElem?_map, List.getElem?_map, e1, e2]
  exact comI_pairs p (colV_sqL s1.l _ _) (colV_sqL s2.l _ _)
/-- A point fits the matrix. -/
theorem point_fits (hm : mayP p = true) (ht : 0 < t) (h : Squares p.Q t S F B) {x y : Int} (hx : 0 ≤ x) (hy : 0 ≤ y) : fitsI p (rowComsI p (matI p F B) x) y ((rowsP p.Q F B t x).map (atP p.Q y)) = true := by
  have hg := good_of hm
  rw [(rows_all hg ht h.f h.b x hx).1]
  have e : (rowsP p.Q F B t x).map (atP p.Q y) = dealtI p (F.map fun F => rowI p.Q F x) (B.map fun B => rowI p.Q B x) y := by
    unfold rowsP dealtI
    rw [List.map_map, List.length_map]
    refine List.map_congr_left fun s hs => ?_
    have hs2 : s < S := by rw [← h.f.1]; exact List.mem_range.1 hs
    obtain ⟨M, e1, s1⟩ := h.atF hs2
    obtain ⟨R, e2, s2⟩ := h.atB hs2
    show atP p.Q y (rowP p.Q F B t x s) = _
    unfold rowP
    rw [List.getElem?_map, List.getElem?_map, e1, e2]
    exact atP_zip (rowI_sqL s1.l _ _) (rowI_sqL s2.l _ _)
  rw [e]
  refine deal_fits hm (t := t) (by rw [List.length_map, List.length_map, h.f.1, h.b.1]) (fun r hr => ?_) (fun r hr => ?_) hy
  · obtain ⟨M, hM, rfl⟩ := List.mem_map.1 hr
    exact ⟨rowI_sqL (h.f.2 M hM).l _ _, rowI_pos hg.Q M x⟩
  · obtain ⟨M, hM, rfl⟩ := List.mem_map.1 hr
    exact ⟨rowI_sqL (h.b.2 M hM).l _ _, rowI_pos hg.Q M x⟩
theorem twoL_pos {x q : Int} {dr : Nat → Int} {t k : Nat} (ht : 1 ≤ t) (hq : 0 < q) (hd : ∀ k, 0 ≤ dr k) : Sq t (twoL x q dr t k) := by
  obtain ⟨h1, h2⟩ := twoL_sq x q dr t k ht
  refine ⟨h1, fun r hr => ⟨h2 r hr, fun y hy => ?_⟩⟩
  obtain ⟨i, _, rfl⟩ := List.mem_map.1 hr
  have hy2 : y ∈ behI x q dr (t * t - 1) k := List.mem_of_mem_drop (List.mem_of_mem_take hy)
  simp only [behI, List.mem_cons, List.mem_map] at hy2
  rcases hy2 with rfl | ⟨j, _, rfl⟩
  · exact Int.emod_nonneg _ (by omega)
  · exact hd _
theorem make_squares {l : List (Int × Int)} {q : Int} {dr : Nat → Int} {t k n : Nat} (ht : 1 ≤ t) (hq : 0 < q) (hd : ∀ k, 0 ≤ dr k) : Squares q t n (makeFs l q dr t k n) (makeBs l q dr t k n) := by
  refine ⟨⟨by simp [makeFs], fun M hM => ?_⟩, ⟨by simp [makeBs], fun M hM => ?_⟩⟩
  · obtain ⟨i, _, rfl⟩ := List.mem_map.1 hM
    exact twoL_pos ht hq hd
  · obtain ⟨i, _, rfl⟩ := List.mem_map.1 hM
    exact twoL_pos ht hq hd
end
end Go.Proofs.YtiimippmihkgcaaGreatDoor

namespace Go.Proofs.YtiimippmihkgcaaGreatDoor
open Go Go.RowKit

def fitG (p : Par) (AT : List Int) (poly : Nat → Nat → List (Int × Int)) (nn many : Nat) : List (Int × List (List Int)) := (List.range many).map fun k => (AT[k]?.getD 0, (List.range nn).map fun s => (poly k s).map (commitI p))
theorem fitG_fst {p : Par} {AT : List Int} {poly : Nat → Nat → List (Int × Int)} {nn many : Nat} (h : AT.length = many) : (fitG p AT poly nn many).map (·.1) = AT := by
  unfold fitG
  rw [List.map_map]
  subst h
  refine List.ext_getElem (by simp) fun i h1 h2 => ?_
  simp [List.getElem?_eq_getElem h2]
theorem fits_lawG {p : Par} (hm : mayP p = true) {AT : List Int} {many nn t : Nat} (hpl : Places p.N AT) (hdl : AT.length = many) (h1 : 1 ≤ many) (hn : (nn : Int) = secretsI p) (ht : (t : Int) = p.T + 1) {i : Int} (hi : 0 ≤ i) {poly : Nat → Nat → List (Int × Int)}
    (hp : ∀ k s, (poly k s).length = t ∧ ∀ y ∈ poly k s, 0 ≤ y.1 ∧ 0 ≤ y.2) :
    sumE p AT (gotI p i poly nn many) = 0 ∧ comsE p (fitG p AT poly nn many) = 0 ∧ formedB p (comsL p (fitG p AT poly nn many)) = true ∧ fitsI p (comsL p (fitG p AT poly nn many)) i (sumL p AT (gotI p i poly nn many)) = true := by
  have hg := good_of hm
  obtain ⟨hq, hP, ha, n1, n2, n3, t1, t2, t3, hs, k1, d1⟩ := may_apart hm
  have h7 := hpl.len n2
  rw [hdl] at h7
  have hM : MemOk p AT (gotI p i poly nn many) := ⟨hm, hpl, by omega, by rw [hdl]; simp [gotI], fun x hx => by
    obtain ⟨k, _, rfl⟩ := List.mem_map.1 hx
    rw [← hn]
    simp⟩
  have hD : Deals p (fitG p AT poly nn many) := ⟨hm, by rw [fitG_fst hdl]; exact hpl, by simp [fitG]; omega, fun d hd => by
    obtain ⟨k, _, rfl⟩ := List.mem_map.1 hd
    refine ⟨by rw [← hn]; simp, fun c hc => ?_⟩
    obtain ⟨s, _, rfl⟩ := List.mem_map.1 (show c ∈ (List.range nn).map fun s => (poly k s).map (commitI p) from hc)
    rw [← ht, List.length_map, (hp k s).1]⟩
  have e1 := sum_good hM
  have e2 := coms_good hD
  have hk : ∀ k ∈ wList p.Q AT 0, 0 ≤ k := wlist_pos hq _ _
  have hkl : (wList p.Q AT 0).length = many := by rw [wlist_length hq ha n3 hpl (by omega) 0, hdl]
  have hc : comsL p (fitG p AT poly nn many) = (List.range nn).map fun s => (List.range t).map fun j => comeU p.P (((List.range many).map fun k => poly k s).map fun l => commitI p (l[j]?.getD (0, 0))) (wList p.Q AT 0) (timesI p.P []) := by
    unfold comsL
    rw [if_pos e2, ← hn, ← ht, Int.toNat_natCast, Int.toNat_natCast, fitG_fst hdl]
    refine List.map_congr_left fun s hs => List.map_congr_left fun j hj => ?_
    congr 1
    unfold fitG
    rw [List.map_map, List.map_map]
    refine List.map_congr_left fun k _ => ?_
    show ((((List.range nn).map fun s => (poly k s).map (commitI p))[s]?.getD [])[j]?).getD 0 = commitI p ((poly k s)[j]?.getD (0, 0))
    have hj' : j < (poly k s).length := by rw [(hp k s).1]; exact List.mem_range.1 hj
    rw [getD_range _ _ (List.mem_range.1 hs), List.getElem?_map, List.getElem?_eq_getElem hj']
    rfl
  have hx : sumL p AT (gotI p i poly nn many) = (List.range nn).map fun s => comeP p.Q (((List.range many).map fun k => poly k s).map fun l => valGo p.Q i l (0, 0) 1) (wList p.Q AT 0) (0, 0) := by
    unfold sumL
    rw [if_pos e1, ← hn, Int.toNat_natCast]
    refine List.map_congr_left fun s hs => ?_
    congr 1
    unfold gotI
    rw [List.map_map, List.map_map]
    refine List.map_congr_left fun k _ => ?_
    show (((List.range nn).map fun s => valGo p.Q i (poly k s) (0, 0) 1)[s]?).getD (0, 0) = valGo p.Q i (poly k s) (0, 0) 1
    rw [getD_range _ _ (List.mem_range.1 hs)]
  have hMs : ∀ s, ∀ l ∈ (List.range many).map fun k => poly k s, l.length = t ∧ ∀ y ∈ l, 0 ≤ y.1 ∧ 0 ≤ y.2 := fun s l hl => by
    obtain ⟨k, _, rfl⟩ := List.mem_map.1 hl
    exact hp k s
  have h0 := mayB_pos hq
  have hz : ∀ a b : Int, isB p (commitI p (a % p.Q, b % p.Q)) = true := fun a b => is_commit' hg _ (Int.emod_nonneg _ (by omega)) (Int.emod_nonneg _ (by omega))
  refine ⟨e1, e2, ?_, ?_⟩
  · have hw : IntKind.i64.wrap (p.T + 1) = (t : Int) := by rw [← ht]; exact IntWalk.i64_in _ (by omega)
    unfold formedB allB
    rw [hc, hw, ← hn]
    simp only [List.length_map, List.length_range, decide_true, Bool.true_and, Bool.not_eq_true', List.any_eq_false]
    intro r hr
    obtain ⟨s, _, rfl⟩ := List.mem_map.1 hr
    simp only [rowBad, List.length_map, List.length_range, Bool.or_eq_true, decide_eq_true_eq, List.any_eq_true, not_or, not_exists, not_and]
    refine ⟨by simp, fun x hx => ?_⟩
    obtain ⟨j, hj, rfl⟩ := List.mem_map.1 hx
    have hb := List.mem_range.1 hj
    have e3 : ((List.range many).map fun k => poly k s).map (fun l => commitI p (l[j]?.getD (0, 0))) = (((List.range many).map fun k => poly k s).map fun l => l[j]?.getD (0, 0)).map (commitI p) := by
      rw [List.map_map, List.map_map, List.map_map]
      rfl
    have hy : ∀ y ∈ ((List.range many).map fun k => poly k s).map (fun l => l[j]?.getD (0, 0)), 0 ≤ y.1 ∧ 0 ≤ y.2 := fun y hy => by
      obtain ⟨l, hl, rfl⟩ := List.mem_map.1 hy
      have hj2 : j < l.length := by rw [(hMs s l hl).1]; exact hb
      rw [List.getElem?_eq_getElem hj2]
      exact (hMs s l hl).2 _ (List.getElem_mem hj2)
    rw [e3, ← commit_zero hg, come_commits hg _ _ (0, 0) hy hk (Int.le_refl 0) (Int.le_refl 0)]
    rw [comeP_eq p.Q hq _ _ (0, 0) (by simp [hkl]) (Int.le_refl 0) h0 (Int.le_refl 0) h0]
    simp [hz]
  · unfold fitsI shareI
    rw [hc, hx, List.map_map, List.map_map]
    refine decide_eq_true (List.map_congr_left fun s _ => ?_)
    exact (fit_one hg hi (hMs s) hk (by simp [hkl])).symm
/-- What a dealer's share comes to, as polynomials. -/
def handP (q : Int) (MF MB : Nat → List (List (List Int))) (t d s : Nat) : List (Int × Int) := zipP (colV q ((MF d)[s]?.getD []) 0) (colV q ((MB d)[s]?.getD []) 0) t
/-- A polynomial's value at 0. -/
theorem hand_eval0 {q : Int} (hq : mayB q = true) (l : List Int) : evalI q l 0 = l[0]?.getD 0 % q := by
  have h1 := evalI_bd hq l 0
  have h2 := evalI_cg hq 0 l
  unfold Cg at h2
  rw [Int.emod_eq_of_lt h1.1 h1.2] at h2
  rw [h2]
  cases l with
  | nil => simp [polyZ]
  | cons y l => simp [polyZ]
section
variable {p : Par} {t nn : Nat} {AT : List Int} {MF MB : Nat → List (List (List Int))} {F R : List (List Int)}
theorem handP_ok (hq : mayB p.Q = true) (hsq : ∀ d, Squares p.Q t nn (MF d) (MB d)) (d s : Nat) (hs : s < nn) : (handP p.Q MF MB t d s).length = t ∧ ∀ y ∈ handP p.Q MF MB t d s, 0 ≤ y.1 ∧ 0 ≤ y.2 := by
  obtain ⟨a, e1, s1⟩ := (hsq d).atF hs
  obtain ⟨b, e2, s2⟩ := (hsq d).atB hs
  unfold handP
  rw [e1, e2, Option.getD_some, Option.getD_some]
  refine ⟨by simp [zipP], fun y hy => ?_⟩
  obtain ⟨k, hk, rfl⟩ := List.mem_map.1 hy
  have hk := List.mem_range.1 hk
  have l1 : k < (colV p.Q a 0).length := by rw [colV_sqL s1.l]; exact hk
  have l2 : k < (colV p.Q b 0).length := by rw [colV_sqL s2.l]; exact hk
  rw [List.getElem?_eq_getElem l1, List.getElem?_eq_getElem l2]
  exact ⟨colV_pos hq a 0 _ (List.getElem_mem l1), colV_pos hq b 0 _ (List.getElem_mem l2)⟩
/-- What a dealer sends: its column at 0, and what its row is at 0. -/
theorem hand_col (hm : mayP p = true) (ht : 0 < t) (hsq : ∀ d, Squares p.Q t nn (MF d) (MB d)) (d : Nat) : colComsI p (matI p (MF d) (MB d)) 0 = (List.range nn).map fun s => (handP p.Q MF MB t d s).map (commitI p) := by
  rw [cols_coms (good_of hm) ht (hsq d) (Int.le_refl 0)]
  unfold colsP
  rw [List.map_map, (hsq d).f.1]
  rfl
theorem hand_row (hm : mayP p = true) (hsq : ∀ d, Squares p.Q t nn (MF d) (MB d)) (d : Nat) (j : Int) : (rowsP p.Q (MF d) (MB d) t j).map (atP p.Q 0) = (List.range nn).map fun s => valGo p.Q j (handP p.Q MF MB t d s) (0, 0) 1 := by
  have hq := (good_of hm).Q
  rw [meets_law hq (hsq d)]
  unfold colsP
  rw [List.map_map, (hsq d).f.1]
  refine List.map_congr_left fun s _ => ?_
  show atP p.Q j (colP p.Q (MF d) (MB d) t 0 s) = valGo p.Q j (handP p.Q MF MB t d s) (0, 0) 1
  rw [val_eval hq]
  rfl
/-- What a new member got. -/
def handGot (p : Par) (MF MB : Nat → List (List (List Int))) (t : Nat) (j : Int) : List (List (Int × Int)) := (List.range t).map fun d => (rowsP p.Q (MF d) (MB d) t j).map (atP p.Q 0)
def handDs (p : Par) (AT : List Int) (MF MB : Nat → List (List (List Int))) (t : Nat) : List (Int × List (List Int)) := (List.range t).map fun d => (AT[d]?.getD 0, colComsI p (matI p (MF d) (MB d)) 0)
noncomputable def handX (p : Par) (AT : List Int) (MF MB : Nat → List (List (List Int))) (t : Nat) (j : Int) : List (Int × Int) := sumL p AT (handGot p MF MB t j)
/-- (polynomials of pairs, from secret nn on none) -/
def handQ (q : Int) (MF MB : Nat → List (List (List Int))) (t nn d s : Nat) : List (Int × Int) := if s < nn then handP q MF MB t d s else List.replicate t (0, 0)
theorem handQ_ok (hq : mayB p.Q = true) (hsq : ∀ d, Squares p.Q t nn (MF d) (MB d)) (d s : Nat) : (handQ p.Q MF MB t nn d s).length = t ∧ ∀ y ∈ handQ p.Q MF MB t nn d s, 0 ≤ y.1 ∧ 0 ≤ y.2 := by
  unfold handQ
  split
  · exact handP_ok hq hsq d s (by assumption)
  · refine ⟨by simp, fun y hy => ?_⟩
    obtain rfl := (List.mem_replicate.1 hy).2
    exact ⟨Int.le_refl 0, Int.le_refl 0⟩
theorem handGot_eq (hm : mayP p = true) (hsq : ∀ d, Squares p.Q t nn (MF d) (MB d)) (j : Int) : handGot p MF MB t j = gotI p j (handQ p.Q MF MB t nn) nn t := by
  unfold handGot gotI
  refine List.map_congr_left fun d _ => ?_
  rw [hand_row hm hsq]
  refine List.map_congr_left fun s hs => ?_
  rw [handQ, if_pos (List.mem_range.1 hs)]
theorem handDs_eq (hm : mayP p = true) (ht : 0 < t) (hsq : ∀ d, Squares p.Q t nn (MF d) (MB d)) : handDs p AT MF MB t = fitG p AT (handQ p.Q MF MB t nn) nn t := by
  unfold handDs fitG
  refine List.map_congr_left fun d _ => ?_
  rw [hand_col hm ht hsq]
  congr 1
  refine List.map_congr_left fun s hs => ?_
  rw [handQ, if_pos (List.mem_range.1 hs)]
/-- They fit. -/
theorem hand_fits (hm : mayP p = true) (hpl : Places p.N AT) (hdl : AT.length = t) (hn : (nn : Int) = secretsI p) (ht : (t : Int) = p.T + 1) (hsq : ∀ d, Squares p.Q t nn (MF d) (MB d)) {j : Int} (hj : 0 ≤ j) :
    sumE p AT (handGot p MF MB t j) = 0 ∧ comsE p (handDs p AT MF MB t) = 0 ∧ formedB p (comsL p (handDs p AT MF MB t)) = true ∧ fitsI p (comsL p (handDs p AT MF MB t)) j (handX p AT MF MB t j) = true := by
  have ht0 : 0 < t := by
    obtain ⟨_, _, _, _, _, _, t1, _⟩ := may_apart hm
    omega
  have hq := (good_of hm).Q
  unfold handX
  rw [handGot_eq hm hsq, handDs_eq hm ht0 hsq]
  exact fits_lawG hm hpl hdl ht0 hn ht hj fun d s => handQ_ok hq hsq d s
/-- The polynomials of the new shares. -/
noncomputable def handF (p : Par) (AT : List Int) (MF MB : Nat → List (List (List Int))) (t nn : Nat) : List (List Int) := (List.range nn).map fun s => (List.range t).map fun k => dotZ (((List.range t).map fun d => (handQ p.Q MF MB t nn d s).map (·.1)).map fun r => r[k]?.getD 0) (wList p.Q AT 0)
noncomputable def handR (p : Par) (AT : List Int) (MF MB : Nat → List (List (List Int))) (t nn : Nat) : List (List Int) := (List.range nn).map fun s => (List.range t).map fun k => dotZ (((List.range t).map fun d => (handQ p.Q MF MB t nn d s).map (·.2)).map fun r => r[k]?.getD 0) (wList p.Q AT 0)
theorem hand_dealt (hm : mayP p = true) (hpl : Places p.N AT) (hdl : AT.length = t) (hn : (nn : Int) = secretsI p) (ht : (t : Int) = p.T + 1) (hsq : ∀ d, Squares p.Q t nn (MF d) (MB d)) {j : Int} (hj : 0 ≤ j) : handX p AT MF MB t j = dealtI p (handF p AT MF MB t nn) (handR p AT MF MB t nn) j := by
  have hg := good_of hm
  have hq := hg.Q
  have h0 := mayB_pos hq
  obtain ⟨_, _, ha, n1, n2, n3, t1, t2, t3, _, _, _⟩ := may_apart hm
  have e1 := (hand_fits hm hpl hdl hn ht hsq hj).1
  have hkl : (wList p.Q AT 0).length = t := by rw [wlist_length hq ha n3 hpl (by omega) 0, hdl]
  unfold handX sumL
  rw [if_pos e1, ← hn, Int.toNat_natCast, handGot_eq hm hsq]
  unfold dealtI
  rw [show (handF p AT MF MB t nn).length = nn by simp [handF]]
  refine List.map_congr_left fun s hs => ?_
  have hs := List.mem_range.1 hs
  have e2 : (gotI p j (handQ p.Q MF MB t nn) nn t).map (fun x => x[s]?.getD (0, 0)) = (List.range t).map fun d => valGo p.Q j (handQ p.Q MF MB t nn d s) (0, 0) 1 := by
    unfold gotI
    rw [List.map_map]
    refine List.map_congr_left fun d _ => ?_
    show ((List.range nn).map fun s => valGo p.Q j (handQ p.Q MF MB t nn d s) (0, 0) 1)[s]?.getD (0, 0) = _
    rw [getD_range _ _ hs]
  rw [e2, comeP_eq p.Q hq _ _ (0, 0) (by simp [hkl]) (Int.le_refl 0) h0 (Int.le_refl 0) h0]
  have key : ∀ π : Int × Int → Int, (∀ d, Cg p.Q (π (valGo p.Q j (handQ p.Q MF MB t nn d s) (0, 0) 1)) (evZ j ((handQ p.Q MF MB t nn d s).map π))) → (0 + dotZ (((List.range t).map fun d => valGo p.Q j (handQ p.Q MF MB t nn d s) (0, 0) 1).map π) (wList p.Q AT 0)) % p.Q = evalI p.Q ((List.range t).map fun k => dotZ (((List.range t).map fun d => (handQ p.Q MF MB t nn d s).map π).map fun r => r[k]?.getD 0) (wList p.Q AT 0)) j := fun π hπ => by
    rw [Int.zero_add, List.map_map]
    have c1 : Cg p.Q (dotZ ((List.range t).map fun d => π (valGo p.Q j (handQ p.Q MF MB t nn d s) (0, 0) 1)) (wList p.Q AT 0)) (dotZ ((List.range t).map fun d => evZ j ((handQ p.Q MF MB t nn d s).map π)) (wList p.Q AT 0)) := dotZ_cg _ _ hπ _ _
    have l1 := lin j t ((List.range t).map fun d => (handQ p.Q MF MB t nn d s).map π) (wList p.Q AT 0) (fun r hr => by
      obtain ⟨d, _, rfl⟩ := List.mem_map.1 hr
      rw [List.length_map, (handQ_ok hq hsq d s).1])
    rw [List.map_map] at l1
    have l2 : (dotZ ((List.range t).map fun d => evZ j ((handQ p.Q MF MB t nn d s).map π)) (wList p.Q AT 0)) = evZ j ((List.range t).map fun k => dotZ (((List.range t).map fun d => (handQ p.Q MF MB t nn d s).map π).map fun r => r[k]?.getD 0) (wList p.Q AT 0)) := l1
    rw [← eval_ev hq, ← l2]
    exact c1
  unfold handF handR
  rw [getD_range _ _ hs, getD_range _ _ hs]
  have hv : ∀ d, valGo p.Q j (handQ p.Q MF MB t nn d s) (0, 0) 1 = (evalI p.Q ((handQ p.Q MF MB t nn d s).map (·.1)) j, evalI p.Q ((handQ p.Q MF MB t nn d s).map (·.2)) j) := fun d => val_eval hq _
  refine Prod.ext ?_ ?_
  · exact key (·.1) fun d => by rw [hv d]; exact evalI_cg' hq j _
  · exact key (·.2) fun d => by rw [hv d]; exact evalI_cg' hq j _
/-- What T + 1 new members come to: the same secrets. -/
theorem hand_back (hm : mayP p = true) (hpl : Places p.N AT) (hdl : AT.length = t) (hn : (nn : Int) = secretsI p) (ht : (t : Int) = p.T + 1) (hsq : ∀ d, Squares p.Q t nn (MF d) (MB d)) (hF : F.length = nn) (hl : ∀ f ∈ F, f.length = t)
    (hh : ∀ d s, d < t → s < nn → (((MF d)[s]?.getD [])[0]?.getD [])[0]?.getD 0 = evalI p.Q (F[s]?.getD []) (AT[d]?.getD 0)) (whose : Int) :
    sumE p (someI t p.N whose) ((someI t p.N whose).map (handX p AT MF MB t)) = 0 ∧ (sumL p (someI t p.N whose) ((someI t p.N whose).map (handX p AT MF MB t))).map (·.1) = F.map fun f => (f[0]?.getD 0) % p.Q := by
  have hg := good_of hm
  have hq := hg.Q
  obtain ⟨_, _, ha, n1, n2, n3, t1, t2, t3, _, _, _⟩ := may_apart hm
  have hpl2 : Places p.N (someI t p.N whose) := places_some t p.N whose (by omega) (by omega)
  have e0 : (someI t p.N whose).map (handX p AT MF MB t) = (someI t p.N whose).map (dealtI p (handF p AT MF MB t nn) (handR p AT MF MB t nn)) := List.map_congr_left fun i hi => hand_dealt hm hpl hdl hn ht hsq (by have := hpl2.1 i hi; omega)
  rw [e0]
  obtain ⟨h1, h2⟩ := who_sum hm whose ht (handF p AT MF MB t nn) (handR p AT MF MB t nn) (by simp [handF, hn]) (fun f hf => by
    obtain ⟨s, _, rfl⟩ := List.mem_map.1 hf
    simp)
  refine ⟨h1, h2.trans ?_⟩
  refine List.ext_getElem (by simp [handF, hF]) fun s g1 g2 => ?_
  have hs : s < nn := by simpa [handF] using g1
  have hsF : s < F.length := by rw [hF]; exact hs
  rw [List.getElem_map, List.getElem_map]
  have e3 : (handF p AT MF MB t nn)[s]'(by simpa [handF] using hs) = (List.range t).map fun k => dotZ (((List.range t).map fun d => (handQ p.Q MF MB t nn d s).map (·.1)).map fun r => r[k]?.getD 0) (wList p.Q AT 0) := by simp [handF]
  rw [e3, List.getElem?_map, List.getElem?_range (by omega), Option.map_some, Option.getD_some, List.map_map]
  have e4 : dotZ ((List.range t).map ((fun r => r[0]?.getD 0) ∘ fun d => (handQ p.Q MF MB t nn d s).map (·.1))) (wList p.Q AT 0) = dotZ (AT.map fun x => evalI p.Q F[s] x) (wList p.Q AT 0) := by
    congr 1
    refine List.ext_getElem (by simp [hdl]) fun d d1 d2 => ?_
    have hd : d < t := by simpa using d1
    have hdA : d < AT.length := by rw [hdl]; exact hd
    simp only [List.getElem_map, List.getElem_range, Function.comp]
    obtain ⟨a, e1, s1⟩ := (hsq d).atF hs
    have e5 := hh d s hd hs
    rw [List.getElem?_eq_getElem hsF, Option.getD_some, List.getElem?_eq_getElem hdA, Option.getD_some] at e5
    rw [handQ, if_pos hs, handP, zipP_fst (by
      rw [e1, Option.getD_some]
      exact colV_sqL s1.l _ _), e1, Option.getD_some]
    rw [e1, Option.getD_some] at e5
    have h0 : 0 < a.length := by rw [s1.1]; omega
    unfold colV
    rw [List.getElem?_map, List.getElem?_eq_getElem h0, Option.map_some, Option.getD_some, hand_eval0 hq]
    rw [List.getElem?_eq_getElem h0, Option.getD_some] at e5
    rw [e5]
    have := evalI_bd hq F[s] AT[d]
    exact Int.emod_eq_of_lt this.1 this.2
  rw [e4]
  have c1 := dotZ_cg (fun i => evalI p.Q F[s] i) (fun i => evZ i F[s]) (fun i => evalI_cg' hq i F[s]) AT (wList p.Q AT 0)
  have c2 := lag hq ha n3 hpl (by omega) (l := F[s]) (by rw [hdl, hl _ (List.getElem_mem hsF)])
  exact c1.trans c2
end
end Go.Proofs.YtiimippmihkgcaaGreatDoor

namespace Go.Proofs.YtiimippmihkgcaaGreatDoor
open Go Go.RowKit Go.Shelf

/-- The polynomials that are drawn, from the k-th draw on: of a secret, and its blinder. -/
def dealF (l : List Int) (q : Int) (dr : Nat → Int) (T k s : Nat) : List Int := behI (l[s]?.getD 0) q dr T (k + s * (2 * T + 1))
def dealR (q : Int) (dr : Nat → Int) (T k s : Nat) : List Int := behI (dr (k + s * (2 * T + 1) + T)) q dr T (k + s * (2 * T + 1) + T + 1)
def dealFs (l : List Int) (q : Int) (dr : Nat → Int) (T k n : Nat) : List (List Int) := (List.range n).map (dealF l q dr T k)
def dealRs (q : Int) (dr : Nat → Int) (T k n : Nat) : List (List Int) := (List.range n).map (dealR q dr T k)
theorem dsnoc {α : Type} (f : Nat → α) (n : Nat) : (List.range (n + 1)).map f = (List.range n).map f ++ [f n] := by simp [List.range_succ]
/-- A slice of one pair in a block made since n. -/
def BlkP (n : Nat) (a b : Int) (v : Value) (w : World) : Prop := ∃ g, v = .slice (some ⟨g, 0, none⟩) 1 1 ∧ n ≤ g ∧ Bk w g 70 #[.int .u64 a, .int .u64 b]
theorem Bk.two {w : World} {b : Nat} {t : TypeId} {u v : Value} (h : Bk w b t #[u, v]) : ∀ j x, [u, v][j]? = some x → w.cell? ⟨b, j, none⟩ = some x := fun j x hv => by rw [h.cell j]; simpa using hv
/-- Where the worlds stand while a pair is put to a share. -/
def evLt (wi : World) (base N : Nat) (v : Value) (xs : List (Int × Int)) (y : Int × Int) : Lt where
  C vs W := wi.grownBy W v.ownBlock ∧ N ≤ W.heap.size ∧ match vs with
    | [] => Acc encP base 70 (fun g => base ≤ g) W v xs
    | [u] => Acc encP base 70 (fun g => base ≤ g) W u (xs ++ [y])
    | _ => False
  R _ _ _ := True
  g := fun {vs X Y} ⟨h1, h2, h3⟩ hg => ⟨h1.trans (hg.but _), Nat.le_trans h2 hg.size, by
    match vs, h3 with
    | [], h3 => exact h3.kept hg
    | [_], h3 => exact h3.kept hg⟩
theorem evLt_vs {wi : World} {base N : Nat} {v : Value} {xs : List (Int × Int)} {y : Int × Int} {vs : List Value} {W : World} (hC : (evLt wi base N v xs y).C vs W) : vs = [] ∨ ∃ u, vs = [u] := by
  obtain ⟨_, _, h⟩ := hC
  match vs, h with
  | [], _ => exact .inl rfl
  | [u], _ => exact .inr ⟨u, rfl⟩
def evP {wi : World} {base N0 : Nat} {v0 : Value} {xs : List (Int × Int)} {y : Int × Int} (N : Nat) (a b : Int) : Qv (evLt wi base N0 v0 xs y) where
  p vs v W := vs = [] → BlkP N a b v W
  fr := 0
  st := fun h hg e => by
    obtain ⟨g, e1, hb, hk⟩ := h e
    exact ⟨g, e1, hb, hk.grown hg (by simp)⟩
  sr := fun _ _ _ _ e => absurd e (by simp)
/-- The pairs of member i + 1 up to secret s. -/
def evsI (p : Par) (F R : List (List Int)) (i s : Nat) : List (Int × Int) := (List.range s).map fun k => (evalI p.Q (F[k]?.getD []) ((i : Int) + 1), evalI p.Q (R[k]?.getD []) ((i : Int) + 1))
theorem evsI_succ (p : Par) (F R : List (List Int)) (i s : Nat) : evsI p F R i (s + 1) = evsI p F R i s ++ [(evalI p.Q (F[s]?.getD []) ((i : Int) + 1), evalI p.Q (R[s]?.getD []) ((i : Int) + 1))] := dsnoc _ _
theorem evsI_all (p : Par) (F R : List (List Int)) (i : Nat) : evsI p F R i F.length = dealtI p F R ((i : Int) + 1) := rfl
set_option maxRecDepth 100000 in
set_option maxHeartbeats 8000000 in
theorem dmodel_new (p : Par) (vl : Value) (l : List Int) (X : Nat → Prop) (w : World) {g : Nat} {dr : Nat → Int} {TI : Nat → World → Prop} {bl : Nat → Prop} {most : Nat} (hT : Tp g p.Q dr TI bl most) (hp : p.ok) (hm : mayP p = true) (hTab : TabsAt w) (h : Sl encU X w vl l) (hX : ∀ b, X b → b ≠ g) (hl : (l.length : Int) = secretsI p) (k0 T : Nat) (hTT : (T : Int) = p.T) (hI : TI k0 w) (hmost : k0 + l.length * (2 * T + 1) ≤ most) :
    Calls Tryz.prog 8 #[p.v, vl, .pointer (some ⟨g, 0, none⟩)] w fun e w' => ∃ vs vc, e = .returned (.tuple #[vs, vc, .int .i64 0]) ∧ Sl (encS encP) (fun b => w.heap.size ≤ b) w' vs ((List.range p.N.toNat).map fun i : Nat => dealtI p (dealFs l p.Q dr T k0 l.length) (dealRs p.Q dr T k0 l.length) ((i : Int) + 1)) ∧ Sl (encS encU) (fun b => w.heap.size ≤ b) w' vc (comsI p (dealFs l p.Q dr T k0 l.length) (dealRs p.Q dr T k0 l.length)) ∧ TI (k0 + l.length * (2 * T + 1)) w' ∧ w.grownBy w' (some g) := by
  have HT := Lib.hid hT
  have HP := Lib.hid hp
  have HX := Lib.hid hX
  obtain ⟨hq, _, _, n1, n2, n3, t1, t2, t3, hs, kk1, dd1⟩ := may_apart hm
  have hsec := smallB_secrets hs
  have HQ : Hid (U64 p.Q ∧ 0 < p.Q) := Lib.hid ⟨hp.Q, mayB_pos hq⟩
  have hL10 : l.length ≤ 10 := by omega
  have hT2 : T ≤ 2 := by omega
  obtain ⟨N, hN⟩ : ∃ k : Nat, (k : Int) = p.N := ⟨p.N.toNat, by omega⟩
  have hNt : p.N.toNat = N := by omega
  have hN7 : N ≤ 7 := by omega
  have HN := Lib.hid hN
  obtain ⟨A, c, rfl, hl1, hl2⟩ := h.form
  have hGW : g < w.heap.size := hT.old hI hT.own
  have HGW := Lib.hid hGW
  have HOB : Hid (∀ b, bl b → b < w.heap.size) := Lib.hid (fun b hb => hT.old hI hb)
  obtain ⟨w0, hw0⟩ : ∃ y, y = w.alloc (Obj.cells p.cells 24) := ⟨_, rfl⟩
  have HG0 : Hid (w.grownBy w0 none) := Lib.hid (by rw [hw0]; exact World.grownBy_alloc w _ none)
  have HB0 : Hid (Bk w0 w.heap.size 24 p.cells) := Lib.hid (by rw [hw0]; exact Bk.new w _ _)
  have HI0 : Hid (TI k0 w0) := Lib.hid (hT.keep hI HG0.out (by simp))
  have HMY := Lib.hid (fun (w' : World) (hg : w0.grownBy w' none) => may_any p w' hp (hTab.kept (HG0.out.trans hg)))
  rw [hm] at HMY
  have HMAY := Lib.hid hm
  have HSEC := Lib.hid (dsecrets_any p)
  rw [← hl] at HSEC
  have HL := Lib.hid (h.kept HG0.out)
  have HTP := Lib.hid hTT
  have HMO := Lib.hid hmost
  have HLS := Lib.hid hl
  rw [hNt]
  clear hT hp hX hq n1 n2 n3 t1 t2 t3 hs kk1 dd1 hsec hm hTab h hI hTT hmost hl hGW hN hNt
  go_enter Tryz.func8, Tryz.ntmps8
  go_wp2_with fail
  rw [← hw0]
  have hp0 := HB0.out.prule
  clear hw0
  go_wp2_with fail
  refine (HMY.out _ (World.grownBy.refl _ none)).mono ?_
  rintro e w1 ⟨rfl, hg⟩
  have HG1 : Hid (w0.grownBy w1 none) := Lib.hid hg
  have hp1 := (HB0.out.grown hg (by simp)).prule
  clear hg hp0 HMY
  go_wp2_with fail
  refine (HSEC.out _).mono ?_
  rintro e w2 ⟨rfl, hg⟩
  have HG2 : Hid (w0.grownBy w2 none) := Lib.hid (HG1.out.trans hg)
  clear hg hp1 HSEC
  go_upto_region 6 with (fail)
  have HB2 : Hid (Bk w2 w.heap.size 24 p.cells) := Lib.hid (HB0.out.grown HG2.out (by simp))
  have HI2 : Hid (TI k0 w2) := Lib.hid (HT.out.keep HI0.out HG2.out (by simp))
  have HW2 : Hid (w.heap.size < w2.heap.size ∧ g < w.heap.size) := Lib.hid ⟨HB2.out.lt, HGW.out⟩
  have HPX : Hid (∀ wx, w2.grownBy wx (some g) → Bk wx w.heap.size 24 p.cells) := Lib.hid (fun wx hg => HB2.out.grown hg (fun e => by injection e with e; have := HW2.out.2; omega))
  have HLX : Hid (∀ wx, w2.grownBy wx (some g) → Sl encU X wx (.slice A l.length c) l) := Lib.hid (fun wx hg => (HL.out.kept HG2.out).keep hg (fun b hb e => HX.out b hb (by injection e with e)))
  have HBH : Hid (∀ (x : Int) (k : Nat) (wx : World), U64 x → k + T ≤ most → TI k wx → Calls Tryz.prog 42 #[.int .u64 x, .int .i64 p.T, .int .u64 p.Q, .func (.func 41) #[.pointer (some ⟨g, 0, none⟩)] #[]] wx fun e w' => ∃ v, e = .returned v ∧ Sl encU (fun b => wx.heap.size ≤ b) w' v (behI x p.Q dr T k) ∧ TI (k + T) w' ∧ wx.grownBy w' (some g)) := Lib.hid (fun x k wx hx hk hi => by
    rw [← HTP.out]
    exact behind_any HT.out x T k wx hx HQ.out.1 HQ.out.2 (by omega) hk hi)
  have HNX : Hid (∀ (k : Nat) (wx : World), k < most → TI k wx → Calls Tryz.prog 41 #[.pointer (some ⟨g, 0, none⟩), .int .u64 p.Q] wx fun e w' => e = .returned (.int .u64 (dr k)) ∧ TI (k + 1) w' ∧ wx.grownBy w' (some g)) := Lib.hid (fun k wx hk hi => HT.out.next hk hi)
  obtain ⟨L, hLL⟩ : ∃ y, y = l.length := ⟨_, rfl⟩
  have HLN := Lib.hid hLL
  rw [← hLL] at hL10 hl1 HMO HLX ⊢
  clear hLL
  go_loopg [10, 11, 31] L (fun gk s10 s11 s31 wx => ∃ s : Nat, s + gk = L ∧ s31 = .int .i64 s ∧ Hid (Side (encS encU) (encS encU) w2.heap.size 39 39 (fun b => w2.heap.size ≤ b) wx s10 s11 (dealFs l p.Q dr T k0 s) (dealRs p.Q dr T k0 s) ∧ TI (k0 + s * (2 * T + 1)) wx ∧ w2.grownBy wx (some g)))
  case atStart => exact ⟨0, by omega, rfl, Lib.hid ⟨⟨Acc.nil _ _ _ _ _, Acc.nil _ _ _ _ _⟩, by simpa using HI2.out, World.grownBy.refl _ _⟩⟩
  case round =>
    obtain ⟨s, hsL, rfl, HXX⟩ := hrel
    have HS0 := Lib.hid HXX.out.1
    have HI3 := Lib.hid HXX.out.2.1
    have HG3 := Lib.hid HXX.out.2.2
    clear HXX
    have hp3 := (HPX.out _ HG3.out).prule
    cases gk with
    | zero =>
      have eL : L = s := by omega
      subst eL
      have hno : ¬ ((L : Int) < (L : Int)) := by omega
      obtain ⟨F, hF⟩ : ∃ y, y = dealFs l p.Q dr T k0 L := ⟨_, rfl⟩
      obtain ⟨R, hR⟩ : ∃ y, y = dealRs p.Q dr T k0 L := ⟨_, rfl⟩
      rw [← hF, ← hR] at HS0
      have HFL : Hid (F.length = L ∧ R.length = L) := Lib.hid (by rw [hF, hR]; simp [dealFs, dealRs])
      have HFT : Hid ((∀ c ∈ F, c.length = T + 1) ∧ (∀ c ∈ R, c.length = T + 1)) := Lib.hid (by
        rw [hF, hR]
        refine ⟨fun c hc => ?_, fun c hc => ?_⟩
        · obtain ⟨i, _, rfl⟩ := List.mem_map.1 hc
          exact behI_len _ _ _ _ _
        · obtain ⟨i, _, rfl⟩ := List.mem_map.1 hc
          exact behI_len _ _ _ _ _)
      have HFE := Lib.hid hF
      have HRE := Lib.hid hR
      obtain ⟨AF, cF, eF, _, _⟩ := HS0.out.fst.sl.form
      obtain ⟨AR, cR, eR, _, _⟩ := HS0.out.snd.sl.form
      rw [HFL.out.1] at eF
      rw [HFL.out.2] at eR
      subst eF eR
      have hmk := run_make_row' (P := Tryz.prog) 34 51 (.slice none 0 0) 24 Tryz.underlying34 info_pairs rfl .i64 .i64 N (by omega) (by omega)
      rw [HN.out] at hmk
      obtain ⟨D0, hD0⟩ : ∃ y, y = wr.alloc (.cells (madeCells #[.slice none 0 0] N) 51) := ⟨_, rfl⟩
      obtain ⟨Bs, hBs⟩ : ∃ y, y = wr.heap.size := ⟨_, rfl⟩
      have HGA : Hid (wr.grownBy D0 none) := Lib.hid (by rw [hD0]; exact World.grownBy_alloc _ _ none)
      have HBO : Hid (Bk D0 Bs 51 (List.replicate N (.slice none 0 0)).toArray) := Lib.hid (by
        rw [hD0, hBs]
        exact (Bk.new wr 51 (madeCells #[.slice none 0 0] N)).of_eq (Array.toList_inj.1 (by rw [toList_madeCells_one])))
      have HBB : Hid (w2.heap.size ≤ Bs ∧ w.heap.size < Bs ∧ g < w.heap.size) := Lib.hid (by rw [hBs]; have := HG3.out.size; have := HW2.out; omega)
      have HBD : Hid (Bk D0 w.heap.size 24 p.cells) := Lib.hid ((HPX.out _ HG3.out).grown HGA.out (by simp))
      have HFD : Hid (Sl (encS encU) (fun b => b < Bs) D0 (.slice AF L cF) F) := Lib.hid ((HS0.out.fst.sl.bounded.kept HGA.out).more fun b _ hb => by rw [hBs]; exact hb.2)
      have HRD : Hid (Sl (encS encU) (fun b => b < Bs) D0 (.slice AR L cR) R) := Lib.hid ((HS0.out.snd.sl.bounded.kept HGA.out).more fun b _ hb => by rw [hBs]; exact hb.2)
      have HID : Hid (TI (k0 + L * (2 * T + 1)) D0) := Lib.hid (HT.out.keep HI3.out HGA.out (by simp))
      have HGD : Hid (w.grownBy D0 (some g)) := Lib.hid (((HG0.out.trans HG2.out).but _).trans (HG3.out.trans (HGA.out.but _)))
      have HLL : Hid ((List.replicate N (Value.slice none 0 0)).length = N) := Lib.hid (by simp)
      have HST : Hid (Bk D0 Bs 51 (List.replicate N (Value.slice none 0 0)).toArray ∧ (∀ i (hi : i < (List.replicate N (Value.slice none 0 0)).length), i < 0 → Sl encP (fun b => Bs < b) D0 (List.replicate N (Value.slice none 0 0))[i] (dealtI p F R ((i : Int) + 1))) ∧ (∀ i (hi : i < (List.replicate N (Value.slice none 0 0)).length), 0 ≤ i → (List.replicate N (Value.slice none 0 0))[i] = .slice none 0 0) ∧ D0.grownBy D0 (some Bs)) := Lib.hid ⟨HBO.out, fun i hi h => absurd h (Nat.not_lt_zero _), fun i hi _ => by simp, World.grownBy.refl _ _⟩
      have HPD : Hid (∀ wx, D0.grownBy wx (some Bs) → Bk wx w.heap.size 24 p.cells) := Lib.hid (fun wx hg => HBD.out.grown hg (fun e => by injection e with e; have := HBB.out; omega))
      have HFX : Hid (∀ wx, D0.grownBy wx (some Bs) → Sl (encS encU) (fun b => b < Bs) wx (.slice AF L cF) F) := Lib.hid (fun wx hg => HFD.out.keep hg (fun b hb e => by injection e with e; omega))
      have HRX : Hid (∀ wx, D0.grownBy wx (some Bs) → Sl (encS encU) (fun b => b < Bs) wx (.slice AR L cR) R) := Lib.hid (fun wx hg => HRD.out.keep hg (fun b hb e => by injection e with e; omega))
      clear hF hR HS0 HI3 HBH HNX HB0 HB2 HBO HBD HFD HRD HPX HLX HG3 HGA
      go_upto_region 13 with (fail)
      rw [← hD0, ← hBs]
      clear hD0 hBs hmk hp3
      go_loopg [64] N (fun gk s64 wx => ∃ (j : Nat) (hs : List Value), j + gk = N ∧ s64 = .int .i64 j ∧ Hid (hs.length = N) ∧ Hid (Bk wx Bs 51 hs.toArray ∧ (∀ i (hi : i < hs.length), i < j → Sl encP (fun b => Bs < b) wx hs[i] (dealtI p F R ((i : Int) + 1))) ∧ (∀ i (hi : i < hs.length), j ≤ i → hs[i] = .slice none 0 0) ∧ D0.grownBy wx (some Bs)))
      case atStart => exact ⟨0, _, by omega, rfl, HLL, HST⟩
      case round =>
        rename World => wj
        obtain ⟨i, hs, hiN, rfl, HLH, HX2⟩ := hrel
        cases gk with
        | zero =>
          obtain rfl : i = N := by omega
          have hno2 : ¬ ((i : Int) < (i : Int)) := by omega
          have HRV : Hid (Sl (encS encP) (fun b => Bs ≤ b) wj (.slice (some ⟨Bs, 0, none⟩) i i) ((List.range i).map fun k : Nat => dealtI p F R ((k : Int) + 1))) := Lib.hid (by
            obtain ⟨h1, h2, _, _⟩ := HX2.out
            have hTL : ((List.range i).map fun k : Nat => dealtI p F R ((k : Int) + 1)).length = i := by simp
            have := Sl.block (E := encS encP) (X := fun b => Bs ≤ b) (xs := (List.range i).map fun k : Nat => dealtI p F R ((k : Int) + 1)) (c := i) h1 (Nat.le_refl _) (hs.map fun v => [v]) (by rw [List.length_map, HLH.out, hTL]) (fun k hk hk' => ⟨hs[k]'(by rw [HLH.out]; omega), by simp, by
              have hc := (h2 k (by rw [HLH.out]; omega) (by omega)).more (Y := fun b => Bs ≤ b) (fun b _ hb => by omega)
              have he : ((List.range i).map fun k : Nat => dealtI p F R ((k : Int) + 1))[k] = dealtI p F R ((k : Int) + 1) := by simp
              rw [he]
              exact hc⟩) (by rw [flatten_singles]) (by rw [hTL]; exact Nat.le_refl _) (by omega)
            rw [hTL] at this
            exact this)
          have HGJ := Lib.hid HX2.out.2.2.2
          have hpj := (HPD.out _ HGJ.out).prule
          have HCM := Lib.hid (callsIn_wide.1 (coms_in 6 (Nat.le_refl _) p (.slice AF L cF) (.slice AR L cR) F R TT wj HP.out ((HFX.out _ HGJ.out).more fun _ _ _ => trivial) ((HRX.out _ HGJ.out).more fun _ _ _ => trivial) (by rw [HFL.out.1]; omega) (by rw [HFL.out.2]; omega) (fun c hc => by
            show c.length ≤ 100000
            rw [HFT.out.1 c hc]
            omega) (fun c hc => by
            show c.length ≤ 100000
            rw [HFT.out.2 c hc]
            omega)))
          clear HX2 HST HLH
          go_wp2_with fail
          refine HCM.out.mono ?_
          rintro e w9 ⟨vc, rfl, hsc, hgc⟩
          have HFIN : Hid (Sl (encS encP) (fun b => w.heap.size ≤ b) w9 (.slice (some ⟨Bs, 0, none⟩) i i) ((List.range i).map fun k : Nat => dealtI p (dealFs l p.Q dr T k0 L) (dealRs p.Q dr T k0 L) ((k : Int) + 1)) ∧ Sl (encS encU) (fun b => w.heap.size ≤ b) w9 vc (comsI p (dealFs l p.Q dr T k0 L) (dealRs p.Q dr T k0 L)) ∧ TI (k0 + L * (2 * T + 1)) w9 ∧ w.grownBy w9 (some g)) := Lib.hid ⟨by
            rw [← HFE.out, ← HRE.out]
            exact (HRV.out.kept hgc).more fun b _ hb => by have := HBB.out.2.1; omega, by
            rw [← HFE.out, ← HRE.out]
            exact hsc.more fun b _ hb => Nat.le_trans (Nat.le_trans HGD.out.size HGJ.out.size) hb, HT.out.keep (HT.out.keep HID.out HGJ.out (fun b e hb => by injection e with e; have := HOB.out b hb; have := HBB.out; omega)) hgc (by simp), HGD.out.andThen (HGJ.out.trans (hgc.but _)) (fun b e => .inl (by injection e with e; have := HBB.out; omega))⟩
          clear hsc hgc hpj
          go_wp2
          go_ret3
          refine ⟨_, _, rfl, ?_⟩
          rw [← HLN.out]
          exact HFIN.out
        | succ m =>
          have hiI : (i : Int) < (N : Int) := by omega
          have hih : i < hs.length := by rw [HLH.out]; omega
          have HIH := Lib.hid hih
          have hjB : Bs < wj.heap.size := HX2.out.1.lt
          have HJB := Lib.hid hjB
          have HIN : Hid (Acc encP wj.heap.size 70 (fun b => wj.heap.size ≤ b) wj (.slice none 0 0) (evsI p F R i 0) ∧ Bk wj Bs 51 (hs.set i (.slice none 0 0)).toArray ∧ wj.grownBy wj (some Bs)) := Lib.hid ⟨Acc.nil _ _ _ _ _, by
            have := HX2.out.2.2.1 i hih (Nat.le_refl _)
            rw [← this, List.set_getElem_self]
            exact HX2.out.1, World.grownBy.refl _ _⟩
          have HGJ := Lib.hid HX2.out.2.2.2
          clear hjB hih
          go_wp2_with fail
          go_loopg [69] L (fun gk s69 wx => ∃ (s : Nat) (v : Value), s + gk = L ∧ s69 = .int .i64 s ∧ Hid (Acc encP wj.heap.size 70 (fun b => wj.heap.size ≤ b) wx v (evsI p F R i s) ∧ Bk wx Bs 51 (hs.set i v).toArray ∧ wj.grownBy wx (some Bs)))
          case atStart => exact ⟨0, _, by omega, rfl, HIN⟩
          case round =>
            rename World => wi
            obtain ⟨s, v, hsL2, rfl, HY⟩ := hrel
            cases gk with
            | zero =>
              obtain rfl : s = L := by omega
              have HFIN : Hid (Bk wi Bs 51 (hs.set i v).toArray ∧ (∀ k (hk : k < (hs.set i v).length), k < i + 1 → Sl encP (fun b => Bs < b) wi (hs.set i v)[k] (dealtI p F R ((k : Int) + 1))) ∧ (∀ k (hk : k < (hs.set i v).length), i + 1 ≤ k → (hs.set i v)[k] = .slice none 0 0) ∧ D0.grownBy wi (some Bs)) := Lib.hid (by
                obtain ⟨h1, h2, h3⟩ := HY.out
                obtain ⟨_, k2, k3, k4⟩ := HX2.out
                refine ⟨h2, fun k hk hij => ?_, fun k hk hij => ?_, HGJ.out.trans h3⟩
                · rcases Nat.lt_or_ge k i with hlt | hge
                  · rw [List.getElem_set_ne (by omega)]
                    exact (k2 k (by simpa using hk) hlt).keep h3 (fun b hb e => by injection e with e; omega)
                  · obtain rfl : k = i := by omega
                    rw [List.getElem_set_self, ← evsI_all p F R k, HFL.out.1]
                    exact h1.sl.more (fun b _ hb => Nat.lt_of_lt_of_le HJB.out hb)
                · rw [List.getElem_set_ne (by omega)]
                  exact k3 k (by simpa using hk) (by omega))
              have HLH2 : Hid ((hs.set i v).length = N) := Lib.hid (by rw [List.length_set]; exact HLH.out)
              clear HX2 HY HST HIN
              go_wp2_with fail
              go_roundg m
              case measure => omega
              case rel => exact ⟨i + 1, _, by omega, by go_num, HLH2, HFIN⟩
            | succ q =>
              have hsI : (s : Int) < (L : Int) := by omega
              have hsF : s < F.length := by rw [HFL.out.1]; omega
              have hsR : s < R.length := by rw [HFL.out.2]; omega
              obtain ⟨hacc, hbo, hgj⟩ := HY.out
              have hgd : D0.grownBy wi (some Bs) := HGJ.out.trans hgj
              obtain ⟨gF, oF, cF', uF, eF, _, hgFl, hcF, hslF⟩ := (HFX.out _ hgd).atS hsF
              injection eF with eF1 eF2 eF3
              subst eF1 eF3
              obtain ⟨gR, oR, cR', uR, eR, _, hgRl, hcR, hslR⟩ := (HRX.out _ hgd).atS hsR
              injection eR with eR1 eR2 eR3
              subst eR1 eR3
              obtain ⟨Af, nf, cf, ef⟩ := hslF.shape
              subst ef
              obtain ⟨Ar, nr, cr, er⟩ := hslR.shape
              subst er
              obtain ⟨Av, nv, cv, ev⟩ := hacc.sl.shape
              subst ev
              have HSN := Lib.hid (evsI_succ p F R i s)
              rw [List.getElem?_eq_getElem hsF, List.getElem?_eq_getElem hsR] at HSN
              have hui : U64 ((i : Int) + 1) := ⟨by omega, by omega⟩
              obtain ⟨ea, hea⟩ : ∃ y, y = evalI p.Q F[s] ((i : Int) + 1) := ⟨_, rfl⟩
              obtain ⟨eb, heb⟩ : ∃ y, y = evalI p.Q R[s] ((i : Int) + 1) := ⟨_, rfl⟩
              simp only [Option.getD_some] at HSN
              rw [← hea, ← heb] at HSN
              have HUA : Hid (U64 ea) := Lib.hid (by rw [hea]; exact evalI_U64 _ _ _)
              have HUB : Hid (U64 eb) := Lib.hid (by rw [heb]; exact evalI_U64 _ _ _)
              obtain ⟨NN, hNN⟩ : ∃ y, y = wi.heap.size := ⟨_, rfl⟩
              have HNB : Hid (wj.heap.size ≤ NN) := Lib.hid (by rw [hNN]; exact hgj.size)
              have hown : ∀ b, (Value.slice Av nv cv).ownBlock = some b → wj.heap.size ≤ b := fun b e => (hacc.lt b e).1
              have hcv0 : wi.cell? ⟨Bs, i, none⟩ = some (.slice Av nv cv) := by rw [hbo.cell i]; simp [HIH.out]
              have hbp := HPD.out _ hgd
              have HNE : Hid (∀ b, b ≤ Bs → some b ≠ (Value.slice Av nv cv).ownBlock) := Lib.hid (fun b hb e => by have := hown b e.symm; have := HJB.out; omega)
              have HC0 : Hid ((evLt wi wj.heap.size NN (.slice Av nv cv) (evsI p F R i s) (ea, eb)).C [] wi.drew) := Lib.hid ⟨(grown_drewN' _ 1).but _, by rw [hNN]; exact Nat.le_refl _, hacc.kept (grown_drewN' _ 1)⟩
              have HLD : Hid (∀ vs W, (evLt wi wj.heap.size NN (.slice Av nv cv) (evsI p F R i s) (ea, eb)).C vs W → W.cell? ⟨w.heap.size, 1, none⟩ = some (.int .u64 p.Q) ∧ W.cell? ⟨gF, oF + s, none⟩ = some (.slice Af nf cf) ∧ W.cell? ⟨gR, oR + s, none⟩ = some (.slice Ar nr cr) ∧ W.cell? ⟨Bs, i, none⟩ = some (.slice Av nv cv)) := Lib.hid (fun vs W hC => ⟨(hbp.grown hC.1 (HNE.out _ (by have := HBB.out; omega))).cell 1, cellK hcF hC.1 (HNE.out _ (by omega)), cellK hcR hC.1 (HNE.out _ (by omega)), cellK hcv0 hC.1 (HNE.out _ (Nat.le_refl _))⟩)
              have HE1 : Hid (∀ vs W, (evLt wi wj.heap.size NN (.slice Av nv cv) (evsI p F R i s) (ea, eb)).C vs W → Calls Tryz.prog 43 #[.slice Af nf cf, .int .u64 ((i : Int) + 1), .int .u64 p.Q] W fun e w' => e = .returned (.int .u64 ea) ∧ W.grownBy w' none) := Lib.hid (fun vs W hC => by
                rw [hea]
                exact eval_any _ F[s] _ p.Q _ W (hslF.keep hC.1 (fun b hb => HNE.out b (by omega))) hui)
              have HE2 : Hid (∀ vs W, (evLt wi wj.heap.size NN (.slice Av nv cv) (evsI p F R i s) (ea, eb)).C vs W → Calls Tryz.prog 43 #[.slice Ar nr cr, .int .u64 ((i : Int) + 1), .int .u64 p.Q] W fun e w' => e = .returned (.int .u64 eb) ∧ W.grownBy w' none) := Lib.hid (fun vs W hC => by
                rw [heb]
                exact eval_any _ R[s] _ p.Q _ W (hslR.keep hC.1 (fun b hb => HNE.out b (by omega))) hui)
              have HSZ : Hid (∀ vs W, (evLt wi wj.heap.size NN (.slice Av nv cv) (evsI p F R i s) (ea, eb)).C vs W → NN ≤ W.heap.size) := Lib.hid (fun vs W hC => hC.2.1)
              have HLB : Hid (((evsI p F R i s).length + 1) * 16 ≤ 140737488355328) := Lib.hid (by simp [evsI]; omega)
              have HFR : Hid (∀ (W : World) (u0 : Value), (evLt wi wj.heap.size NN (.slice Av nv cv) (evsI p F R i s) (ea, eb)).C [u0] W → Acc encP wj.heap.size 70 (fun b => wj.heap.size ≤ b) (W.setCell ⟨Bs, i, none⟩ u0) u0 (evsI p F R i (s + 1)) ∧ Bk (W.setCell ⟨Bs, i, none⟩ u0) Bs 51 (hs.set i u0).toArray ∧ wj.grownBy (W.setCell ⟨Bs, i, none⟩ u0) (some Bs)) := Lib.hid (fun W u0 hC => by
                obtain ⟨g1, _, g3⟩ := hC
                have h3 : Acc encP wj.heap.size 70 (fun b => wj.heap.size ≤ b) W u0 (evsI p F R i (s + 1)) := by rw [HSN.out]; exact g3
                exact ⟨h3.keep (grownSet W Bs i u0) (fun b hb e => by injection e with e; have := HJB.out; omega), ((hbo.grown g1 (HNE.out _ (Nat.le_refl _))).set i u0).of_eq (by simp), ((hgj.andThen g1 (fun b e => .inl (hown b e))).andThen (grownSet W Bs i u0) (fun b e => .inr e))⟩)
              have HFRZ : Hid (∀ (W : World) (vs : List Value), (evLt wi wj.heap.size NN (.slice Av nv cv) (evsI p F R i s) (ea, eb)).C vs W → Bk W Bs 51 (hs.set i (.slice Av nv cv)).toArray) := Lib.hid (fun W vs hC => hbo.grown hC.1 (HNE.out _ (Nat.le_refl _)))
              have hcw : IntKind.u64.wrap ((i : Int) + 1) = (i : Int) + 1 := IntWalk.u64_in _ (by omega)
              have hci : IntKind.i64.wrap ((i : Int) + 1) = (i : Int) + 1 := IntWalk.i64_in _ (by omega)
              have hs0 : (0 : Int) ≤ (s : Int) := Int.natCast_nonneg s
              have hi0 : (0 : Int) ≤ (i : Int) := Int.natCast_nonneg i
              clear hacc hbo hgj hgd hslF hslR hcF hcR hea heb hNN hown hcv0 hbp hgFl hgRl eF2 eR2 HY HIN HST hui hsF hsR
              go_upto_region 18 with (fail)
              refine wp_region_late (evLt wi wj.heap.size NN (.slice Av nv cv) (evsI p F R i s) (ea, eb)) [28] 30 (by kernel_rfl) (by kernel_rfl) (by kernel_rfl) HC0.out ?_
              -- op 0 (slot 72): move
              refine LateR.mono (Qv.eq (.slice (some ⟨Bs, 0, none⟩) N N)) [] (by kernel_rfl) (by rfl) rfl (fun vs w' hC => ?_) ?_
              · refine askl_do rfl fun K hK => ?_
                go_simp
                exact hK _ _ rfl ⟨rfl, World.grownBy.refl _ none⟩
              -- op 1 (slot 73): move
              refine LateR.mono (Qv.eq (.int .i64 (i : Int))) [] (by kernel_rfl) (by rfl) rfl (fun vs w' hC => ?_) ?_
              · refine askl_do rfl fun K hK => ?_
                go_simp
                exact hK _ _ rfl ⟨rfl, World.grownBy.refl _ none⟩
              -- op 2 (slot 74): move
              refine LateR.mono (Qv.eq (.slice (some ⟨Bs, 0, none⟩) N N)) [] (by kernel_rfl) (by rfl) rfl (fun vs w' hC => ?_) ?_
              · refine askl_do rfl fun K hK => ?_
                go_simp
                exact hK _ _ rfl ⟨rfl, World.grownBy.refl _ none⟩
              -- op 3 (slot 75): move
              refine LateR.mono (Qv.eq (.int .i64 (i : Int))) [] (by kernel_rfl) (by rfl) rfl (fun vs w' hC => ?_) ?_
              · refine askl_do rfl fun K hK => ?_
                go_simp
                exact hK _ _ rfl ⟨rfl, World.grownBy.refl _ none⟩
              -- op 4 (slot 76): indexAddr
              refine LateR.mono (Qv.eq (.pointer (some ⟨Bs, i, none⟩))) [(2, 74), (3, 75)] (by kernel_rfl) (by rfl) rfl (fun vs w' hC => ?_) ?_
              · rintro _ rfl
                rintro _ rfl
                refine askl_do rfl fun K hK => ?_
                go_simp
                exact hK _ _ rfl ⟨rfl, World.grownBy.refl _ none⟩
              -- op 5 (slot 77): load
              refine LateR.mono (Qv.eq (.slice Av nv cv)) [(4, 76)] (by kernel_rfl) (by rfl) rfl (fun vs w' hC => ?_) ?_
              · rintro _ rfl
                refine askl_do rfl fun K hK => ?_
                obtain ⟨q0, q1, q2, q3⟩ := HLD.out vs w' hC
                go_simp
                exact hK _ _ rfl ⟨rfl, World.grownBy.refl _ none⟩
              -- op 6 (slot 78): move
              refine LateR.mono (Qv.eq (.slice (some ⟨gF, oF, none⟩) L cF)) [] (by kernel_rfl) (by rfl) rfl (fun vs w' hC => ?_) ?_
              · refine askl_do rfl fun K hK => ?_
                go_simp
                exact hK _ _ rfl ⟨rfl, World.grownBy.refl _ none⟩
              -- op 7 (slot 79): move
              refine LateR.mono (Qv.eq (.int .i64 (s : Int))) [] (by kernel_rfl) (by rfl) rfl (fun vs w' hC => ?_) ?_
              · refine askl_do rfl fun K hK => ?_
                go_simp
                exact hK _ _ rfl ⟨rfl, World.grownBy.refl _ none⟩
              -- op 8 (slot 80): indexAddr
              refine LateR.mono (Qv.eq (.pointer (some ⟨gF, oF + s, none⟩))) [(6, 78), (7, 79)] (by kernel_rfl) (by rfl) rfl (fun vs w' hC => ?_) ?_
              · rintro _ rfl
                rintro _ rfl
                refine askl_do rfl fun K hK => ?_
                go_simp
                exact hK _ _ rfl ⟨rfl, World.grownBy.refl _ none⟩
              -- op 9 (slot 81): load
              refine LateR.mono (Qv.eq (.slice Af nf cf)) [(8, 80)] (by kernel_rfl) (by rfl) rfl (fun vs w' hC => ?_) ?_
              · rintro _ rfl
                refine askl_do rfl fun K hK => ?_
                obtain ⟨q0, q1, q2, q3⟩ := HLD.out vs w' hC
                go_simp
                exact hK _ _ rfl ⟨rfl, World.grownBy.refl _ none⟩
              -- op 10 (slot 82): move
              refine LateR.mono (Qv.eq (.int .i64 (i : Int))) [] (by kernel_rfl) (by rfl) rfl (fun vs w' hC => ?_) ?_
              · refine askl_do rfl fun K hK => ?_
                go_simp
                exact hK _ _ rfl ⟨rfl, World.grownBy.refl _ none⟩
              -- op 11 (slot 83): binOp
              refine LateR.mono (Qv.eq (.int .i64 ((i : Int) + 1))) [(10, 82)] (by kernel_rfl) (by rfl) rfl (fun vs w' hC => ?_) ?_
              · rintro _ rfl
                refine askl_do rfl fun K hK => ?_
                go_simp
                exact hK _ _ rfl ⟨rfl, World.grownBy.refl _ none⟩
              -- op 12 (slot 84): convert
              refine LateR.mono (Qv.eq (.int .u64 ((i : Int) + 1))) [(11, 83)] (by kernel_rfl) (by rfl) rfl (fun vs w' hC => ?_) ?_
              · rintro _ rfl
                refine askl_do rfl fun K hK => ?_
                go_simp
                exact hK _ _ rfl ⟨rfl, World.grownBy.refl _ none⟩
              -- op 13 (slot 85): fieldAddr
              refine LateR.mono (Qv.eq (.pointer (some ⟨w.heap.size, 1, none⟩))) [] (by kernel_rfl) (by rfl) rfl (fun vs w' hC => ?_) ?_
              · refine askl_do rfl fun K hK => ?_
                go_simp
                exact hK _ _ rfl ⟨rfl, World.grownBy.refl _ none⟩
              -- op 14 (slot 86): load
              refine LateR.mono (Qv.eq (.int .u64 p.Q)) [(13, 85)] (by kernel_rfl) (by rfl) rfl (fun vs w' hC => ?_) ?_
              · rintro _ rfl
                refine askl_do rfl fun K hK => ?_
                obtain ⟨q0, q1, q2, q3⟩ := HLD.out vs w' hC
                go_simp
                exact hK _ _ rfl ⟨rfl, World.grownBy.refl _ none⟩
              -- op 15 (slot 87): call
              refine LateR.mono (Qv.eq (.int .u64 ea)) [(9, 81), (12, 84), (14, 86)] (by kernel_rfl) (by rfl) rfl (fun vs w' hC => ?_) ?_
              · rintro _ rfl
                rintro _ rfl
                rintro _ rfl
                refine askl_do rfl fun K hK => ?_
                go_simp
                refine (HE1.out vs w' hC).mono ?_
                rintro e w3 ⟨rfl, hg3⟩
                exact hK _ _ rfl ⟨rfl, hg3⟩
              -- op 16 (slot 88): move
              refine LateR.mono (Qv.eq (.slice (some ⟨gR, oR, none⟩) L cR)) [] (by kernel_rfl) (by rfl) rfl (fun vs w' hC => ?_) ?_
              · refine askl_do rfl fun K hK => ?_
                go_simp
                exact hK _ _ rfl ⟨rfl, World.grownBy.refl _ none⟩
              -- op 17 (slot 89): move
              refine LateR.mono (Qv.eq (.int .i64 (s : Int))) [] (by kernel_rfl) (by rfl) rfl (fun vs w' hC => ?_) ?_
              · refine askl_do rfl fun K hK => ?_
                go_simp
                exact hK _ _ rfl ⟨rfl, World.grownBy.refl _ none⟩
              -- op 18 (slot 90): indexAddr
              refine LateR.mono (Qv.eq (.pointer (some ⟨gR, oR + s, none⟩))) [(16, 88), (17, 89)] (by kernel_rfl) (by rfl) rfl (fun vs w' hC => ?_) ?_
              · rintro _ rfl
                rintro _ rfl
                refine askl_do rfl fun K hK => ?_
                go_simp
                exact hK _ _ rfl ⟨rfl, World.grownBy.refl _ none⟩
              -- op 19 (slot 91): load
              refine LateR.mono (Qv.eq (.slice Ar nr cr)) [(18, 90)] (by kernel_rfl) (by rfl) rfl (fun vs w' hC => ?_) ?_
              · rintro _ rfl
                refine askl_do rfl fun K hK => ?_
                obtain ⟨q0, q1, q2, q3⟩ := HLD.out vs w' hC
                go_simp
                exact hK _ _ rfl ⟨rfl, World.grownBy.refl _ none⟩
              -- op 20 (slot 92): move
              refine LateR.mono (Qv.eq (.int .i64 (i : Int))) [] (by kernel_rfl) (by rfl) rfl (fun vs w' hC => ?_) ?_
              · refine askl_do rfl fun K hK => ?_
                go_simp
                exact hK _ _ rfl ⟨rfl, World.grownBy.refl _ none⟩
              -- op 21 (slot 93): binOp
              refine LateR.mono (Qv.eq (.int .i64 ((i : Int) + 1))) [(20, 92)] (by kernel_rfl) (by rfl) rfl (fun vs w' hC => ?_) ?_
              · rintro _ rfl
                refine askl_do rfl fun K hK => ?_
                go_simp
                exact hK _ _ rfl ⟨rfl, World.grownBy.refl _ none⟩
              -- op 22 (slot 94): convert
              refine LateR.mono (Qv.eq (.int .u64 ((i : Int) + 1))) [(21, 93)] (by kernel_rfl) (by rfl) rfl (fun vs w' hC => ?_) ?_
              · rintro _ rfl
                refine askl_do rfl fun K hK => ?_
                go_simp
                exact hK _ _ rfl ⟨rfl, World.grownBy.refl _ none⟩
              -- op 23 (slot 95): fieldAddr
              refine LateR.mono (Qv.eq (.pointer (some ⟨w.heap.size, 1, none⟩))) [] (by kernel_rfl) (by rfl) rfl (fun vs w' hC => ?_) ?_
              · refine askl_do rfl fun K hK => ?_
                go_simp
                exact hK _ _ rfl ⟨rfl, World.grownBy.refl _ none⟩
              -- op 24 (slot 96): load
              refine LateR.mono (Qv.eq (.int .u64 p.Q)) [(23, 95)] (by kernel_rfl) (by rfl) rfl (fun vs w' hC => ?_) ?_
              · rintro _ rfl
                refine askl_do rfl fun K hK => ?_
                obtain ⟨q0, q1, q2, q3⟩ := HLD.out vs w' hC
                go_simp
                exact hK _ _ rfl ⟨rfl, World.grownBy.refl _ none⟩
              -- op 25 (slot 97): call
              refine LateR.mono (Qv.eq (.int .u64 eb)) [(19, 91), (22, 94), (24, 96)] (by kernel_rfl) (by rfl) rfl (fun vs w' hC => ?_) ?_
              · rintro _ rfl
                rintro _ rfl
                rintro _ rfl
                refine askl_do rfl fun K hK => ?_
                go_simp
                refine (HE2.out vs w' hC).mono ?_
                rintro e w3 ⟨rfl, hg3⟩
                exact hK _ _ rfl ⟨rfl, hg3⟩
              -- op 26 (slot 98): build
              refine LateR.mono (Qv.eq (.agg #[.int .u64 ea, .int .u64 eb])) [(15, 87), (25, 97)] (by kernel_rfl) (by rfl) rfl (fun vs w' hC => ?_) ?_
              · rintro _ rfl
                rintro _ rfl
                refine askl_do rfl fun K hK => ?_
                go_simp
                exact hK _ _ rfl ⟨rfl, World.grownBy.refl _ none⟩
              -- op 27 (slot 99): buildSlice
              refine LateR.mono (evP NN ea eb) [(26, 98)] (by kernel_rfl) (by rfl) rfl (fun vs w' hC => ?_) ?_
              · rintro _ rfl
                refine askl_do rfl fun K hK => ?_
                have hsz := HSZ.out vs w' hC
                go_simp
                exact hK _ _ rfl ⟨fun _ => ⟨_, rfl, hsz, Bk.new w' _ _⟩, World.grownBy_alloc w' _ none⟩
              -- op 28 (slot 100): call
              refine LateR.turn 0 [(5, 77), (27, 99)] (by kernel_rfl) rfl (fun vs w' hl hC => ?_) ?_
              · rintro _ rfl
                intro x99 h99
                have h99 : vs = [] → BlkP NN ea eb x99 w' := h99
                refine askl_do rfl fun K hK => ?_
                obtain rfl : vs = [] := List.eq_nil_of_length_eq_zero hl
                obtain ⟨g1, g2, g3⟩ := hC
                obtain ⟨b99, e99, hb99, hk99⟩ := h99 rfl
                subst e99
                refine pushAt_core (E := encP) (y := (ea, eb)) el_pair g3 ⟨rfl, HUA.out, HUB.out⟩ (Bk.two hk99) HLB.out (Nat.le_trans HNB.out g2) (fun g hg => Nat.le_trans (Nat.le_trans HNB.out g2) hg) (.tmp 77) (.tmp 99) rfl rfl rfl ?_
                intro v3 w3 ha hgr hm
                exact hK _ _ rfl ⟨trivial, g1.trans hgr, Nat.le_trans g2 hgr.size, ha⟩
              -- op 29 (slot 101): indexAddr
              refine LateR.mono (Qv.eq (.pointer (some ⟨Bs, i, none⟩))) [(0, 72), (1, 73)] (by kernel_rfl) (by rfl) rfl (fun vs w' hC => ?_) ?_
              · rintro _ rfl
                rintro _ rfl
                refine askl_do rfl fun K hK => ?_
                go_simp
                exact hK _ _ rfl ⟨rfl, World.grownBy.refl _ none⟩
              intro vs w5 hvl hC5
              obtain ⟨u, rfl⟩ : ∃ u, vs = [u] := List.length_eq_one_iff.1 hvl
              intro y0 k0 y1 k1 y2 k2 y3 k3 y4 k4 y5 k5 y6 k6 y7 k7 y8 k8 y9 k9 y10 k10 y11 k11 y12 k12 y13 k13 y14 k14 y15 k15 y16 k16 y17 k17 y18 k18 y19 k19 y20 k20 y21 k21 y22 k22 y23 k23 y24 k24 y25 k25 y26 k26 y27 k27 y28 k28 y29 k29
              show wpList Tryz.prog _ _ _ _ w5
              simp only [Act.put, List.setIfInBounds_toArray, List.set_cons_zero, List.set_cons_succ]
              have e28 : y28 = u := by have : some u = some y28 := k28; injection this with this; exact this.symm
              have e29 : y29 = .pointer (some ⟨Bs, i, none⟩) := k29
              subst e28 e29
              have HF5 := Lib.hid (HFR.out w5 y28 hC5)
              have hz5 := HFRZ.out w5 _ hC5
              have c5 : w5.cell? ⟨Bs, i, none⟩ = some (.slice Av nv cv) := by rw [hz5.cell i]; simp [HIH.out]
              have f5 := hz5.free
              have HA5 : Hid (Acc encP wj.heap.size 70 (fun b => wj.heap.size ≤ b) w5 y28 (evsI p F R i s ++ [(ea, eb)])) := Lib.hid hC5.2.2
              obtain ⟨Au, nu, cu, eu⟩ := HA5.out.sl.shape
              subst eu
              clear hC5 hz5 HA5 k0 k1 k2 k3 k4 k5 k6 k7 k8 k9 k10 k11 k12 k13 k14 k15 k16 k17 k18 k19 k20 k21 k22 k23 k24 k25 k26 k27 k28 k29 HLD HSZ HFR HFRZ HC0 HE1 HE2
              go_wp2_with fail
              go_roundg q
              case measure => omega
              case rel => exact ⟨s + 1, _, by omega, by go_num, HF5⟩
    | succ m =>
      have hin : (s : Int) < (L : Int) := by omega
      have hsl : s < l.length := by have := HLN.out; omega
      obtain ⟨gl, ol, cl, el, _, _, hcl, hul⟩ := (HLX.out _ HG3.out).atU hsl
      injection el with el1 el2 el3
      subst el1 el3
      obtain ⟨kb, hkb⟩ : ∃ y, y = k0 + s * (2 * T + 1) := ⟨_, rfl⟩
      have hkm : kb + (2 * T + 1) ≤ most := by
        have h1 : (s + 1) * (2 * T + 1) ≤ L * (2 * T + 1) := Nat.mul_le_mul_right _ (by omega)
        have h2 := HMO.out
        rw [Nat.add_mul, Nat.one_mul] at h1
        omega
      have HKN : Hid (k0 + (s + 1) * (2 * T + 1) = kb + T + 1 + T) := Lib.hid (by rw [hkb, Nat.add_mul, Nat.one_mul]; omega)
      have HFN : Hid (dealFs l p.Q dr T k0 (s + 1) = dealFs l p.Q dr T k0 s ++ [behI l[s] p.Q dr T kb]) := Lib.hid (by
        rw [hkb]
        refine (dsnoc _ _).trans ?_
        show _ ++ [behI (l[s]?.getD 0) p.Q dr T (k0 + s * (2 * T + 1))] = _
        rw [List.getElem?_eq_getElem hsl]
        rfl)
      have HRN : Hid (dealRs p.Q dr T k0 (s + 1) = dealRs p.Q dr T k0 s ++ [behI (dr (kb + T)) p.Q dr T (kb + T + 1)]) := Lib.hid (by
        rw [hkb]
        exact dsnoc _ _)
      rw [← hkb] at HI3
      have HB1 := Lib.hid (HBH.out l[s] kb wr hul (by omega) HI3.out)
      obtain ⟨y, hy⟩ : ∃ y, y = behI l[s] p.Q dr T kb := ⟨_, rfl⟩
      rw [← hy] at HFN HB1
      obtain ⟨z, hz⟩ : ∃ y, y = behI (dr (kb + T)) p.Q dr T (kb + T + 1) := ⟨_, rfl⟩
      rw [← hz] at HRN
      have HZ := Lib.hid hz
      have HLF : Hid (((dealFs l p.Q dr T k0 s).length + 1) * 24 ≤ 140737488355328) := Lib.hid (by simp [dealFs]; omega)
      have HLR : Hid (((dealRs p.Q dr T k0 s).length + 1) * 24 ≤ 140737488355328) := Lib.hid (by simp [dealRs]; omega)
      have HOWN : Hid ((∀ r, u10.ownBlock = some r → r < wr.heap.size) ∧ (∀ r, u11.ownBlock = some r → r < wr.heap.size)) := Lib.hid ⟨fun r e => (HS0.out.fst.lt r e).2, fun r e => (HS0.out.snd.lt r e).2⟩
      have HZR : Hid (w2.heap.size ≤ wr.heap.size) := Lib.hid HG3.out.size
      clear hkb hy hz el2
      generalize l[s] = x at *
      go_wp2_with fail
      refine HB1.out.mono ?_
      rintro e w3 ⟨v42, rfl, hs3, hi3, hg3⟩
      obtain ⟨A42, n42, c42, rfl⟩ := hs3.shape
      have HG4 : Hid (w2.grownBy w3 (some g)) := Lib.hid (HG3.out.trans hg3)
      have HI4 := Lib.hid hi3
      have HS4 := Lib.hid (HS0.out.keep hg3 (fun b hb e => by injection e with e; have := HW2.out; omega))
      have HREP : Hid ((encS encU).rep (fun b => (w2.heap.size ≤ b ∧ some b ≠ u11.ownBlock) ∧ some b ≠ u10.ownBlock) w3 [.slice A42 n42 c42] y) := Lib.hid ⟨_, rfl, hs3.more fun b _ hb => ⟨⟨Nat.le_trans HZR.out hb, fun e => by have := HOWN.out.2 b e.symm; omega⟩, fun e => by have := HOWN.out.1 b e.symm; omega⟩⟩
      have HZ4 : Hid (w2.heap.size ≤ w3.heap.size) := Lib.hid HG4.out.size
      clear hs3 hi3 hg3 hp3 hcl
      go_wp2_with (at_builtin; refine wpList_push rfl (.tmp 35) (.tmp 43) rfl (E := encS encU) (y := y) el_nums HS4.out.fst rfl rfl HREP.out HLF.out HZ4.out (HS4.out.new1 (fun _ h => Nat.le_trans HZ4.out h)) ?_)
      intro v10 w4 ha hg hm
      have HS5 := Lib.hid (HS4.out.one ha hg hm)
      have HG5 : Hid (w2.grownBy w4 (some g)) := Lib.hid (HG4.out.andThen hg (fun j e => .inl (HS4.out.fst.lt j e).1))
      have HI5 : Hid (TI (kb + T) w4) := Lib.hid (HT.out.keep HI4.out hg (fun b e hb => by have := (HS4.out.fst.lt b e).1; have := HOB.out b hb; have := HW2.out; omega))
      obtain ⟨A10, n10, c10, e10⟩ := HS5.out.fst.sl.shape
      subst e10
      obtain ⟨A11, n11, c11, e11⟩ := HS5.out.snd.sl.shape
      subst e11
      clear ha hg hm
      have hp5 : ∀ o, w4.drew.cell? ⟨w.heap.size, o, none⟩ = (#[.int .u64 p.P, .int .u64 p.Q, .int .u64 p.G, .int .u64 p.H, .int .i64 p.Nodes, .int .i64 p.N, .int .i64 p.T, .int .i64 p.K, .int .i64 p.D, .int .i64 p.R, .int .i64 p.M, .int .i64 p.X] : Array Value)[o]? := (HPX.out _ HG5.out).prule
      have HI6 : Hid (TI (kb + T) w4.drew) := Lib.hid (HT.out.keep HI5.out (grown_drewN' _ 1) (by simp))
      have HS6 := Lib.hid (HS5.out.kept (grown_drewN' _ 1))
      have HG6 : Hid (w2.grownBy w4.drew (some g)) := Lib.hid (HG5.out.trans ((grown_drewN' _ 1).but _))
      have HN6 := Lib.hid (HNX.out (kb + T) w4.drew (by omega) HI6.out)
      have HVU := Lib.hid (HT.out.val (kb + T))
      have hkm2 : kb + T + 1 + T ≤ most := by omega
      go_upto_region 9 with (fail)
      go_region_held3 (fun w' => ∀ o, w'.cell? ⟨w.heap.size, o, none⟩ = (#[.int .u64 p.P, .int .u64 p.Q, .int .u64 p.G, .int .u64 p.H, .int .i64 p.Nodes, .int .i64 p.N, .int .i64 p.T, .int .i64 p.K, .int .i64 p.D, .int .i64 p.R, .int .i64 p.M, .int .i64 p.X] : Array Value)[o]?) (first | assumption | (refine rule_alloc ?_ ?_ _ <;> assumption) | go_keep)
        (first
        | (go_at_call 41; (with_reducible refine HN6.out.mono ?_); rintro e w5 ⟨rfl, hi5, hg5⟩; have HI7 := Lib.hid hi5; have HG7 : Hid (w2.grownBy w5 (some g)) := Lib.hid (HG6.out.trans hg5); have HS7 := Lib.hid (HS6.out.keep hg5 (fun b hb e => by injection e with e; have := HW2.out; omega)); have hp7 := (HPX.out _ HG7.out).prule; have HB7 := Lib.hid (HBH.out (dr (kb + T)) (kb + T + 1) w5 HVU.out hkm2 HI7.out); have hz7 : w5.heap.size = w5.heap.size := rfl; clear hi5 hg5)
        | (go_at_call 42; (with_reducible refine HB7.out.mono ?_); rintro e w6 ⟨v55, rfl, hs6, hi6, hg6⟩; obtain ⟨A55, n55, c55, rfl⟩ := hs6.shape; have HI8 := Lib.hid hi6; have HG8 : Hid (w2.grownBy w6 (some g)) := Lib.hid (HG7.out.trans hg6); have HS8 := Lib.hid (HS7.out.keep hg6 (fun b hb e => by injection e with e; have := HW2.out; omega)); have hp8 := (HPX.out _ HG8.out).prule; have lp8 : w.heap.size < w6.heap.size := (HPX.out _ HG8.out).lt; have HZ8 : Hid (w2.heap.size ≤ w6.heap.size) := Lib.hid HG8.out.size; have HREP2 : Hid ((encS encU).rep (fun b => (w2.heap.size ≤ b ∧ some b ≠ (Value.slice A10 n10 c10).ownBlock) ∧ some b ≠ (Value.slice A11 n11 c11).ownBlock) w6 [.slice A55 n55 c55] z) := Lib.hid ⟨_, rfl, by rw [HZ.out]; exact hs6.more fun b _ hb => ⟨⟨Nat.le_trans HG7.out.size hb, fun e => by have := (HS7.out.fst.lt b e.symm).2; omega⟩, fun e => by have := (HS7.out.snd.lt b e.symm).2; omega⟩⟩; clear hs6 hi6 hg6)
        | (refine step_push rfl (.tmp 45) (.tmp 56) rfl (E := encS encU) (y := z) el_nums HS8.out.snd rfl rfl HREP2.out HLR.out HZ8.out (HS8.out.new2 (fun _ h => Nat.le_trans HZ8.out h)) ?_; intro v11 w7 ha hg hm; have HS9 := Lib.hid (HS8.out.two ha hg hm); have HG9 : Hid (w2.grownBy w7 (some g)) := Lib.hid (HG8.out.andThen hg (fun j e => .inl (HS8.out.snd.lt j e).1)); have HI9 : Hid (TI (kb + T + 1 + T) w7) := Lib.hid (HT.out.keep HI8.out hg (fun b e hb => by have := (HS8.out.snd.lt b e).1; have := HOB.out b hb; have := HW2.out; omega)); have hp9 := (HPX.out _ HG9.out).prule; clear ha hg hm))
      have HFIN : Hid (Side (encS encU) (encS encU) w2.heap.size 39 39 (fun b => w2.heap.size ≤ b) w7 (.slice A10 n10 c10) v11 (dealFs l p.Q dr T k0 (s + 1)) (dealRs p.Q dr T k0 (s + 1)) ∧ TI (k0 + (s + 1) * (2 * T + 1)) w7 ∧ w2.grownBy w7 (some g)) := Lib.hid ⟨by rw [HFN.out, HRN.out]; exact HS9.out, by rw [HKN.out]; exact HI9.out, HG9.out⟩
      go_wp2_with fail
      go_roundg m
      case measure => omega
      case rel => exact ⟨s + 1, by omega, by go_num, HFIN⟩
theorem dmodel_any (p : Par) (vl : Value) (l : List Int) (X : Nat → Prop) (w : World) {g : Nat} {dr : Nat → Int} {TI : Nat → World → Prop} {bl : Nat → Prop} {most : Nat} (hT : Tp g p.Q dr TI bl most) (hp : p.ok) (hm : mayP p = true) (hTab : TabsAt w) (h : Sl encU X w vl l) (hX : ∀ b, X b → b ≠ g) (hl : (l.length : Int) = secretsI p) (k0 T : Nat) (hTT : (T : Int) = p.T) (hI : TI k0 w) (hmost : k0 + l.length * (2 * T + 1) ≤ most) :
    Calls Tryz.prog 8 #[p.v, vl, .pointer (some ⟨g, 0, none⟩)] w fun e w' => ∃ vs vc, e = .returned (.tuple #[vs, vc, .int .i64 0]) ∧ Sl (encS encP) TT w' vs ((List.range p.N.toNat).map fun i : Nat => dealtI p (dealFs l p.Q dr T k0 l.length) (dealRs p.Q dr T k0 l.length) ((i : Int) + 1)) ∧ Sl (encS encU) TT w' vc (comsI p (dealFs l p.Q dr T k0 l.length) (dealRs p.Q dr T k0 l.length)) ∧ TI (k0 + l.length * (2 * T + 1)) w' ∧ w.grownBy w' (some g) := (dmodel_new p vl l X w hT hp hm hTab h hX hl k0 T hTT hI hmost).mono fun _ _ ⟨vs, vc, e, h1, h2, h3⟩ => ⟨vs, vc, e, h1.more fun _ _ _ => trivial, h2.more fun _ _ _ => trivial, h3⟩
end Go.Proofs.YtiimippmihkgcaaGreatDoor

namespace Go.Proofs.YtiimippmihkgcaaGreatDoor
open Go Go.RowKit

set_option maxHeartbeats 1000000 in
theorem mnext_any (p : Par) (l : List Int) (n : Nat) (hnl : n = l.length) (A : Option Addr) (c B6 B3 B2 a : Nat) (W : World) (ha : a ≤ 100000) (h6 : Bk W B6 3 #[.int .i64 a]) (h3 : Bk W B3 25 #[.slice A n c]) (h2 : Bk W B2 24 p.cells) (hne : B2 < B6) (hl : Sl encI TT W (.slice A n c) l) (hn : l.length ≤ 100) (hM : 1 ≤ p.M ∧ p.M ≤ 1048576) :
    Calls Tryz.prog 39 #[.pointer (some ⟨B6, 0, none⟩), .pointer (some ⟨B3, 0, none⟩), .pointer (some ⟨B2, 0, none⟩)] W fun e w' => e = .returned (.int .i64 (drw l p.M a)) ∧ W.grownBy w' (some B6) ∧ Bk w' B6 3 #[.int .i64 ((a + 1 : Nat) : Int)] := by
  subst hnl
  have hc6 := h6.cell 0
  have hc3 := h3.cell 0
  have hf6 := h6.free 0
  have hcM : W.cell? ⟨B2, 10, none⟩ = some (.int .i64 p.M) := h2.cell 10
  simp at hc6 hc3
  have n1 : ¬ B6 = B2 := by omega
  have n2 : ¬ B2 = B6 := by omega
  have HFIN : Hid (∀ k, W.grownBy ((W.drewN k).setCell ⟨B6, 0, none⟩ (.int .i64 ((a : Int) + 1))) (some B6) ∧ Bk ((W.drewN k).setCell ⟨B6, 0, none⟩ (.int .i64 ((a : Int) + 1))) B6 3 #[.int .i64 ((a + 1 : Nat) : Int)]) := Lib.hid (fun k => ⟨((grownBy_drewN (World.grownBy.refl W none) k).but _).trans (grownBy_set (World.grownBy.refl _ (some B6)) 0 _), by
    have := (h6.drewN k).set 0 (.int .i64 ((a : Int) + 1))
    simpa using this⟩)
  obtain ⟨M1, M2⟩ := hM
  have hz1 : (p.M + 1 == 0) = false := by simp; omega
  have hz2 : ¬ p.M + 1 = 0 := by omega
  have eM : IntKind.i64.wrap (p.M + 1) = p.M + 1 := IntWalk.i64_in _ (by omega)
  by_cases h0 : 0 < l.length
  · have hk : a % l.length < l.length := Nat.mod_lt _ h0
    obtain ⟨kq, hkq⟩ : ∃ q, q = a % l.length := ⟨_, rfl⟩
    have hnum : drw l p.M a = Int.tmod l[a % l.length] (p.M + 1) := by rw [drw, if_pos h0, List.getElem?_eq_getElem hk]; rfl
    have hbd := drw_bd l M1 a
    obtain ⟨g, o, c', e, _, _, h1, hu⟩ := hl.atI hk
    have hI : (0 : Int) < (l.length : Int) := by omega
    have hkI : (kq : Int) < (l.length : Int) := by rw [hkq]; omega
    have d1 : Int.tmod (a : Int) (l.length : Int) = (kq : Int) := by rw [Int.tmod_eq_emod_of_nonneg (by omega), hkq]; exact (Int.natCast_emod a l.length).symm
    have d2 : (a : Int) % (l.length : Int) = (kq : Int) := by rw [hkq]; exact (Int.natCast_emod a l.length).symm
    have hnz : ¬ (l.length : Int) = 0 := by omega
    rw [hnum] at hbd ⊢
    generalize hx : l[a % l.length] = x at *
    rw [← hkq] at h1
    have ew : IntKind.i64.wrap (Int.tmod x (p.M + 1)) = Int.tmod x (p.M + 1) := IntWalk.i64_in _ (by omega)
    obtain ⟨u0, u1⟩ := hu
    injection e with e1 e2 e3
    subst e1 e3
    clear hl h6 h3 h2 hk hnum hkq hx e2 h0 hbd
    generalize l.length = n at *
    go_enter Tryz.func39, Tryz.ntmps39
    go_wp2_with fail
    go_quiet (fail)
    go_wp2
    go_ret
    exact ⟨rfl, HFIN.out _⟩
  · have hnum : drw l p.M a = (a : Int) % 3 % (p.M + 1) := by rw [drw, if_neg h0, Int.tmod_eq_emod_of_nonneg (show (0 : Int) ≤ (a : Int) by omega), Int.tmod_eq_emod_of_nonneg (by omega)]
    have hbd := drw_bd l M1 a
    have hI : ¬ (l.length : Int) > 0 := by omega
    rw [hnum] at hbd ⊢
    have ew : IntKind.i64.wrap ((a : Int) % 3 % (p.M + 1)) = (a : Int) % 3 % (p.M + 1) := IntWalk.i64_in _ (by omega)
    clear hl h6 h3 h2 hnum h0 hbd
    generalize l.length = n at *
    go_enter Tryz.func39, Tryz.ntmps39
    go_wp2
    go_ret
    exact ⟨rfl, HFIN.out 0⟩
/-- What stands while the model is made. -/
structure WM (p : Par) (vl : Value) (B : Nat) (w : World) (a : Nat) (vW vB : Value) (W : World) : Prop where
  par : Bk W B 24 p.cells
  lst : Bk W (B + 1) 25 #[vl]
  res : Bk W (B + 2) 30 #[.slice none 0 0, .slice none 0 0]
  m : Bk W (B + 3) 30 #[vW, vB]
  cnt : Bk W (B + 4) 3 #[.int .i64 a]
  gr : w.grownBy W none
section
variable {p : Par} {vl : Value} {B : Nat} {w : World} {a : Nat} {vW vB : Value} {X Y : World}
theorem WM.own (h : WM p vl B w a vW vB X) {row : Option Nat} (hg : X.grownBy Y row) (hr : ∀ r, row = some r → B + 5 ≤ r) (hB : B = w.heap.size := by rfl) : WM p vl B w a vW vB Y := by
  have hn : ∀ k, k < B + 5 → some k ≠ row := fun k hk e => by have := hr k e.symm; omega
  exact ⟨h.par.grown hg (hn _ (by omega)), h.lst.grown hg (hn _ (by omega)), h.res.grown hg (hn _ (by omega)), h.m.grown hg (hn _ (by omega)), h.cnt.grown hg (hn _ (by omega)), grown_up h.gr hg (fun r e => by have := hr r e; omega)⟩
theorem WM.tick (h : WM p vl B w a vW vB X) {a' : Nat} (hg : X.grownBy Y (some (B + 4))) (hb : Bk Y (B + 4) 3 #[.int .i64 a']) (hB : B = w.heap.size := by rfl) : WM p vl B w a' vW vB Y := by
  have hn : ∀ k, k < B + 4 → some k ≠ some (B + 4) := fun k hk e => by injection e with e; omega
  exact ⟨h.par.grown hg (hn _ (by omega)), h.lst.grown hg (hn _ (by omega)), h.res.grown hg (hn _ (by omega)), h.m.grown hg (hn _ (by omega)), hb, grown_up h.gr hg (fun r e => by injection e with e; omega)⟩
theorem WM.set0 (h : WM p vl B w a vW vB X) (u : Value) (hB : B = w.heap.size := by rfl) : WM p vl B w a u vB (X.setCell ⟨B + 3, 0, none⟩ u) :=
  ⟨h.par.far (by simp) _, h.lst.far (by simp) _, h.res.far (by simp) _, (h.m.set 0 u).of_eq rfl, h.cnt.far (by simp) _, grownSetUp h.gr 0 u (by omega)⟩
theorem WM.set1 (h : WM p vl B w a vW vB X) (u : Value) (hB : B = w.heap.size := by rfl) : WM p vl B w a vW u (X.setCell ⟨B + 3, 1, none⟩ u) :=
  ⟨h.par.far (by simp) _, h.lst.far (by simp) _, h.res.far (by simp) _, (h.m.set 1 u).of_eq rfl, h.cnt.far (by simp) _, grownSetUp h.gr 1 u (by omega)⟩
end
abbrev SideI (base : Nat) (w : World) (v u : Value) (xs : List (List Int)) (ys : List Int) : Prop := Side (encS encI) encI base 25 2 (fun g => base ≤ g) w v u xs ys
/-- Where the worlds stand while a number is put to the model. -/
def modLt (p : Par) (vl : Value) (w : World) (N a : Nat) (vW vB : Value) (xs : List (List Int)) (ys : List Int) (z : Int) : Lt where
  C vs X := N ≤ X.heap.size ∧ match vs with
    | [] => WM p vl w.heap.size w a vW vB X ∧ SideI (w.heap.size + 5) X vW vB xs ys
    | [u] => u = .int .i64 z ∧ WM p vl w.heap.size w (a + 1) vW vB X ∧ SideI (w.heap.size + 5) X vW vB xs ys
    | [u, v] => u = .int .i64 z ∧ WM p vl w.heap.size w (a + 1) vW vB X ∧ SideI (w.heap.size + 5) X vW v xs (ys ++ [z])
    | _ => False
  R q X Y := match q with
    | 0 => X.grownBy Y (some (w.heap.size + 4))
    | _ => True
  g := fun {vs X Y} ⟨h1, h2⟩ hg => ⟨Nat.le_trans h1 hg.size, by
    match vs, h2 with
    | [], h2 => exact ⟨h2.1.own hg (by simp), h2.2.kept hg⟩
    | [_], h2 => exact ⟨h2.1, h2.2.1.own hg (by simp), h2.2.2.kept hg⟩
    | [_, _], h2 => exact ⟨h2.1, h2.2.1.own hg (by simp), h2.2.2.kept hg⟩⟩
theorem modLt_at {p : Par} {vl : Value} {w : World} {N a : Nat} {vW vB : Value} {xs : List (List Int)} {ys : List Int} {z : Int} {vs : List Value} {X : World} {x : Value} (hC : (modLt p vl w N a vW vB xs ys z).C vs X) (h : vs[0]? = some x) : x = .int .i64 z := by
  obtain ⟨_, h2⟩ := hC
  match vs, h, h2 with
  | [u], h, h2 => obtain ⟨e, _⟩ := h2; subst e; injection h with h; exact h.symm
  | [u, _], h, h2 => obtain ⟨e, _⟩ := h2; subst e; injection h with h; exact h.symm
def modZ {p : Par} {vl : Value} {w : World} {N0 a : Nat} {vW vB : Value} {xs : List (List Int)} {ys : List Int} {z0 : Int} (N : Nat) (z : Int) (hO : w.heap.size + 4 < N) : Qv (modLt p vl w N0 a vW vB xs ys z0) where
  p vs v X := vs.length ≤ 1 → BlkQ N 2 (.int .i64 z) v X
  fr := 0
  st := fun h hg e => by
    obtain ⟨b, e1, hb, hk⟩ := h e
    exact ⟨b, e1, hb, hk.grown hg (by simp)⟩
  sr := fun {vs u v X Y} _ _ hR h e => by
    have h0 : vs = [] := by simpa using e
    subst h0
    obtain ⟨b, e1, hb, hk⟩ := h (by simp)
    have hR : X.grownBy Y (some (w.heap.size + 4)) := hR
    exact ⟨b, e1, hb, hk.grown hR (fun e => by injection e with e; omega)⟩
theorem results_mod {fn : Func} {W : World} {B4 : Nat} {vW vB : Value} (h : fn.results = #[.cell 4 30]) (tmps : Array Value) (h4 : tmps.getD 4 undef = .pointer (some ⟨B4, 0, none⟩)) (hb4 : Bk W B4 30 #[vW, vB]) : (results fn tmps).run Tryz.prog W = .ok (.agg #[vW, vB]) W := by
  have r1 := run_loadVar_row (P := Tryz.prog) W B4 30 30 #[vW, vB] (0, 0) _ hb4 Tryz.underlying30 rfl (by kernel_rfl)
  have h4' : tmps[4]?.getD undef = .pointer (some ⟨B4, 0, none⟩) := by simpa using h4
  simp [results, h, h4', asAddr, r1]
theorem wrow_snoc {α : Type} (f : Nat → α) (n : Nat) : (List.range (n + 1)).map f = (List.range n).map f ++ [f n] := by simp [List.range_succ]
def wRow (l : List Int) (M : Int) (d k : Nat) : List Int := (List.range d).map fun i => drw l M (k * (d + 1) + i)
def wRows (l : List Int) (M : Int) (d k : Nat) : List (List Int) := (List.range k).map (wRow l M d)
def wLast (l : List Int) (M : Int) (d k : Nat) : List Int := (List.range k).map fun k => drw l M (k * (d + 1) + d)
theorem wRows_who (p : Par) (l : List Int) : wRows l p.M p.D.toNat p.K.toNat = whoW p l := rfl
theorem wLast_who (p : Par) (l : List Int) : wLast l p.M p.D.toNat p.K.toNat = whoB p l := rfl
set_option maxRecDepth 100000 in
set_option maxHeartbeats 4000000 in
theorem model20_any (p : Par) (v : Value) (l : List Int) (X : Nat → Prop) (w : World) (hm : mayP p = true) (h : Sl encI X w v l) (hn : l.length ≤ 100) :
    Calls Tryz.prog 6 #[p.v, v] w fun e w' => ∃ vW vB, e = .returned (.agg #[vW, vB]) ∧ Sl (encS encI) TT w' vW (whoW p l) ∧ Sl encI TT w' vB (whoB p l) ∧ w.grownBy w' none := by
  obtain ⟨k1, k2, d1, d2, M1, M2, _, _, _, _⟩ := may_sizes hm
  obtain ⟨K, hK⟩ : ∃ k : Nat, (k : Int) = p.K := ⟨p.K.toNat, by omega⟩
  obtain ⟨D, hD⟩ : ∃ k : Nat, (k : Int) = p.D := ⟨p.D.toNat, by omega⟩
  have HRES : Hid (wRows l p.M D K = whoW p l ∧ wLast l p.M D K = whoB p l) := Lib.hid (by
    rw [show D = p.D.toNat by omega, show K = p.K.toNat by omega]
    exact ⟨rfl, rfl⟩)
  have HSZ : Hid (K ≤ 2 ∧ D ≤ 4) := Lib.hid (by omega)
  have HMM : Hid (1 ≤ p.M ∧ p.M ≤ 1048576) := Lib.hid ⟨M1, M2⟩
  have HKD : Hid ((K : Int) = p.K ∧ (D : Int) = p.D) := Lib.hid ⟨hK, hD⟩
  obtain ⟨A, c, rfl, hl1, hl2⟩ := h.form
  obtain ⟨n, hnl⟩ : ∃ n, n = l.length := ⟨_, rfl⟩
  have HNL := Lib.hid hnl
  have HN := Lib.hid hn
  rw [← hnl] at hl1 h ⊢
  have HL := Lib.hid h
  clear h hm k1 k2 d1 d2 M1 M2 hK hD hn hnl
  go_enter Tryz.func6, Tryz.ntmps6
  go_upto_region 4 with (fail)
  obtain ⟨w9, hw9⟩ : ∃ y, y = ((((w.alloc (Obj.cells p.cells 24)).alloc (Obj.cells #[.slice A n c] 25)).alloc (Obj.cells #[.slice none 0 0, .slice none 0 0] 30)).alloc (Obj.cells #[.slice none 0 0, .slice none 0 0] 30)).alloc (Obj.cells #[.int .i64 0] 3) := ⟨_, rfl⟩
  rw [← hw9]
  have HW0 : Hid (WM p (.slice A n c) w.heap.size w 0 (.slice none 0 0) (.slice none 0 0) w9) := Lib.hid (by
    rw [hw9]
    have g1 := World.grownBy_alloc w (Obj.cells p.cells 24) none
    have b0 := Bk.new w 24 p.cells
    have b1 := Bk.new (w.alloc (Obj.cells p.cells 24)) 25 #[.slice A n c]
    have b2 := Bk.new ((w.alloc (Obj.cells p.cells 24)).alloc (Obj.cells #[.slice A n c] 25)) 30 #[.slice none 0 0, .slice none 0 0]
    have b3 := Bk.new (((w.alloc (Obj.cells p.cells 24)).alloc (Obj.cells #[.slice A n c] 25)).alloc (Obj.cells #[.slice none 0 0, .slice none 0 0] 30)) 30 #[.slice none 0 0, .slice none 0 0]
    have b4 := Bk.new ((((w.alloc (Obj.cells p.cells 24)).alloc (Obj.cells #[.slice A n c] 25)).alloc (Obj.cells #[.slice none 0 0, .slice none 0 0] 30)).alloc (Obj.cells #[.slice none 0 0, .slice none 0 0] 30)) 3 #[.int .i64 0]
    simp only [World.size_alloc] at b1 b2 b3 b4
    exact ⟨(((b0.alloc _).alloc _).alloc _).alloc _, ((b1.alloc _).alloc _).alloc _, (b2.alloc _).alloc _, b3.alloc _, b4, (((g1.trans (World.grownBy_alloc _ _ none)).trans (World.grownBy_alloc _ _ none)).trans (World.grownBy_alloc _ _ none)).trans (World.grownBy_alloc _ _ none)⟩)
  clear hw9
  have HFN : Hid (∀ (Xw : World) (a : Nat) (vW vB : Value), a ≤ 100000 → WM p (.slice A n c) w.heap.size w a vW vB Xw → Calls Tryz.prog 39 #[.pointer (some ⟨w.heap.size + 4, 0, none⟩), .pointer (some ⟨w.heap.size + 1, 0, none⟩), .pointer (some ⟨w.heap.size, 0, none⟩)] Xw fun e w' => e = .returned (.int .i64 (drw l p.M a)) ∧ Xw.grownBy w' (some (w.heap.size + 4)) ∧ Bk w' (w.heap.size + 4) 3 #[.int .i64 ((a + 1 : Nat) : Int)]) := Lib.hid (fun Xw a vW vB ha hW => mnext_any p l n HNL.out A c (w.heap.size + 4) (w.heap.size + 1) w.heap.size a Xw ha hW.cnt hW.lst hW.par (by omega) ((HL.out.kept hW.gr).more fun _ _ _ => trivial) HN.out HMM.out)
  have HZI : Hid (∀ a : Nat, I64 (drw l p.M a)) := Lib.hid (fun a => by have := drw_bd l HMM.out.1 a; have := HMM.out.2; exact ⟨by omega, by omega⟩)
  have hK2 : K ≤ 2 := HSZ.out.1
  have hD4 : D ≤ 4 := HSZ.out.2
  go_wp2_with fail
  go_loopg [8] K (fun g s8 wx => ∃ k : Nat, k + g = K ∧ s8 = .int .i64 k ∧ Hid (∃ vW vB, WM p (.slice A n c) w.heap.size w (k * (D + 1)) vW vB wx ∧ SideI (w.heap.size + 5) wx vW vB (wRows l p.M D k) (wLast l p.M D k)))
  case atStart => exact ⟨0, by omega, rfl, Lib.hid ⟨_, _, by simpa using HW0.out, ⟨Acc.nil _ _ _ _ _, Acc.nil _ _ _ _ _⟩⟩⟩
  case round =>
    obtain ⟨k, hk, rfl, HX⟩ := hrel
    obtain ⟨vW, vB, h1, h2⟩ := HX.out
    clear HX
    have hp0 := h1.par.prule
    cases gk with
    | zero =>
      obtain rfl : k = K := by omega
      have hno : ¬ ((k : Int) < p.K) := by have := HKD.out.1; omega
      obtain ⟨AW, nW, cW, rfl⟩ := h2.fst.sl.shape
      obtain ⟨AB, nB, cB, rfl⟩ := h2.snd.sl.shape
      have c50 := h1.m.cell 0
      have c51 := h1.m.cell 1
      have c40 := h1.res.cell 0
      have c41 := h1.res.cell 1
      have f4 := h1.res.free
      simp at c50 c51 c40 c41
      have HR4 : Hid (Bk ((wr.setCell ⟨w.heap.size + 2, 0, none⟩ (.slice AW nW cW)).setCell ⟨w.heap.size + 2, 1, none⟩ (.slice AB nB cB)) (w.heap.size + 2) 30 #[.slice AW nW cW, .slice AB nB cB]) := Lib.hid ((h1.res.set 0 _).set 1 _)
      have HGR : Hid (w.grownBy ((wr.setCell ⟨w.heap.size + 2, 0, none⟩ (.slice AW nW cW)).setCell ⟨w.heap.size + 2, 1, none⟩ (.slice AB nB cB)) none) := Lib.hid (grownSetUp (grownSetUp h1.gr 0 _ (by omega)) 1 _ (by omega))
      have HSR : Hid (SideI (w.heap.size + 5) ((wr.setCell ⟨w.heap.size + 2, 0, none⟩ (.slice AW nW cW)).setCell ⟨w.heap.size + 2, 1, none⟩ (.slice AB nB cB)) (.slice AW nW cW) (.slice AB nB cB) (whoW p l) (whoB p l)) := Lib.hid (by
        rw [← HRES.out.1, ← HRES.out.2]
        exact (h2.keep (grownSet wr (w.heap.size + 2) 0 _) (fun g hg e => by injection e with e; omega)).keep (grownSet _ (w.heap.size + 2) 1 _) (fun g hg e => by injection e with e; omega))
      clear h1 h2
      go_wp2_with fail
      exact ⟨rfl, _, results_mod rfl _ rfl HR4.out, _, _, rfl, HSR.out.fst.sl.more fun _ _ _ => trivial, HSR.out.snd.sl.more fun _ _ _ => trivial, HGR.out⟩
    | succ m =>
      have hin : (k : Int) < p.K := by have := HKD.out.1; omega
      obtain ⟨kn, hkn⟩ : ∃ q, q = k * (D + 1) := ⟨_, rfl⟩
      have hknb : kn ≤ 10 := by rw [hkn]; exact Nat.le_trans (Nat.mul_le_mul (show k ≤ 2 by omega) (show D + 1 ≤ 5 by omega)) (Nat.le_refl _)
      have HKN := Lib.hid hkn
      rw [← hkn] at h1
      obtain ⟨wo, hwo⟩ : ∃ y, y = wr := ⟨_, rfl⟩
      subst hwo
      have HWX : Hid (∀ (wx : World) (a : Nat), wo.grownBy wx (some (w.heap.size + 4)) → Bk wx (w.heap.size + 4) 3 #[.int .i64 a] → WM p (.slice A n c) w.heap.size w a vW vB wx) := Lib.hid (fun wx a hg hb => h1.tick hg hb)
      have HSX : Hid (∀ wx, wo.grownBy wx (some (w.heap.size + 4)) → SideI (w.heap.size + 5) wx vW vB (wRows l p.M D k) (wLast l p.M D k)) := Lib.hid (fun wx hg => h2.keep hg (fun g hg e => by injection e with e; omega))
      have HOWN : Hid ((∀ r, vW.ownBlock = some r → w.heap.size + 5 ≤ r ∧ r < wo.heap.size) ∧ (∀ r, vB.ownBlock = some r → w.heap.size + 5 ≤ r ∧ r < wo.heap.size)) := Lib.hid ⟨h2.fst.lt, h2.snd.lt⟩
      have HWB : Hid (w.heap.size + 5 ≤ wo.heap.size) := Lib.hid (by have := h1.cnt.lt; omega)
      have HCN := Lib.hid h1.cnt
      clear h1 h2 hkn
      go_wp2_with fail
      go_loopg [9, 10] D (fun g s9 s10 wx => ∃ d : Nat, d + g = D ∧ s10 = .int .i64 d ∧ Hid (Acc encI wo.heap.size 2 (fun g => wo.heap.size ≤ g) wx s9 ((List.range d).map fun i => drw l p.M (kn + i)) ∧ wo.grownBy wx (some (w.heap.size + 4)) ∧ Bk wx (w.heap.size + 4) 3 #[.int .i64 ((kn + d : Nat) : Int)]))
      case atStart => exact ⟨0, by omega, rfl, Lib.hid ⟨Acc.nil _ _ _ _ _, World.grownBy.refl _ _, HCN.out⟩⟩
      case round =>
        obtain ⟨d, hd, rfl, HY⟩ := hrel
        have HA := Lib.hid HY.out.1
        have HG := Lib.hid HY.out.2.1
        have HM := Lib.hid (HWX.out wr _ HY.out.2.1 HY.out.2.2)
        clear HY hp0
        have hp1 := HM.out.par.prule
        have HSW : Hid (wo.heap.size ≤ wr.heap.size) := Lib.hid HG.out.size
        cases gk with
        | zero =>
          obtain rfl : d = D := by omega
          have hno : ¬ ((d : Int) < p.D) := by have := HKD.out.2; omega
          have HS := Lib.hid (HSX.out wr HG.out)
          obtain ⟨Ar, nr, cr, er⟩ := HA.out.sl.shape
          subst er
          obtain ⟨row, hrow⟩ : ∃ y, y = (List.range d).map fun i => drw l p.M (kn + i) := ⟨_, rfl⟩
          rw [← hrow] at HA
          have HRW := Lib.hid hrow
          clear hrow
          have HREP : Hid ((encS encI).rep (fun g => (w.heap.size + 5 ≤ g ∧ some g ≠ vB.ownBlock) ∧ some g ≠ vW.ownBlock) wr [.slice Ar nr cr] row) := Lib.hid ⟨_, rfl, HA.out.sl.more fun g _ hg => ⟨⟨by have := HWB.out; omega, fun e => by have := (HOWN.out.2 g e.symm).2; omega⟩, fun e => by have := (HOWN.out.1 g e.symm).2; omega⟩⟩
          have HLBW : Hid (((wRows l p.M d k).length + 1) * 24 ≤ 140737488355328) := Lib.hid (by simp [wRows]; omega)
          have HLB : Hid (((wLast l p.M d k).length + 1) * 8 ≤ 140737488355328) := Lib.hid (by simp [wLast]; omega)
          have HSZW : Hid (w.heap.size + 5 ≤ wr.heap.size) := Lib.hid (Nat.le_trans HWB.out HSW.out)
          obtain ⟨AW, nW, cW, eW⟩ := HS.out.fst.sl.shape
          obtain ⟨AB, nB, cB, eB⟩ := HS.out.snd.sl.shape
          subst eW eB
          have c50 := HM.out.m.cell 0
          simp at c50
          have hmf := HM.out.m.free
          go_wp2_with (at_builtin; refine wpList_push rfl (.tmp 30) (.tmp 32) rfl (E := encS encI) (y := row) el_i64s HS.out.fst rfl rfl HREP.out HLBW.out HSZW.out (HS.out.new1 (fun _ h => Nat.le_trans HSZW.out h)) ?_)
          intro vW2 w5 ha hg hm
          have HM5 := Lib.hid (HM.out.own hg (fun r e => (HS.out.fst.lt r e).1))
          have HS5 := Lib.hid (HS.out.one ha hg hm)
          obtain ⟨AW2, nW2, cW2, eW2⟩ := HS5.out.fst.sl.shape
          subst eW2
          clear ha hg hm c50 hp1 hmf
          have c50 := HM5.out.m.cell 0
          have f5 := HM5.out.m.free
          simp at c50
          go_upto_region 13 with (fail)
          obtain ⟨w6, hw6⟩ : ∃ y, y = w5.setCell ⟨w.heap.size + 3, 0, none⟩ (.slice AW2 nW2 cW2) := ⟨_, rfl⟩
          rw [← hw6]
          have HM6 : Hid (WM p (.slice A n c) w.heap.size w (kn + d) (.slice AW2 nW2 cW2) (.slice AB nB cB) w6) := Lib.hid (by rw [hw6]; exact HM5.out.set0 _)
          have HS6 : Hid (SideI (w.heap.size + 5) w6 (.slice AW2 nW2 cW2) (.slice AB nB cB) (wRows l p.M d k ++ [row]) (wLast l p.M d k)) := Lib.hid (by rw [hw6]; exact HS5.out.keep (grownSet w5 (w.heap.size + 3) 0 _) (fun g hg e => by injection e with e; omega))
          clear hw6 c50 f5 HM5 HS5 HS HM HA HREP
          obtain ⟨z, hz⟩ : ∃ y, y = drw l p.M (kn + d) := ⟨_, rfl⟩
          have HZZ := Lib.hid hz
          have HZ : Hid (I64 z) := Lib.hid (by rw [hz]; exact HZI.out _)
          obtain ⟨N, hN⟩ : ∃ y, y = w6.heap.size := ⟨_, rfl⟩
          obtain ⟨a, ha⟩ : ∃ y, y = kn + d := ⟨_, rfl⟩
          have HAA := Lib.hid ha
          rw [← ha] at HM6 hz
          have HNX : Hid (∀ Xw, WM p (.slice A n c) w.heap.size w a (.slice AW2 nW2 cW2) (.slice AB nB cB) Xw → Calls Tryz.prog 39 #[.pointer (some ⟨w.heap.size + 4, 0, none⟩), .pointer (some ⟨w.heap.size + 1, 0, none⟩), .pointer (some ⟨w.heap.size, 0, none⟩)] Xw fun e w' => e = .returned (.int .i64 z) ∧ Xw.grownBy w' (some (w.heap.size + 4)) ∧ Bk w' (w.heap.size + 4) 3 #[.int .i64 ((a + 1 : Nat) : Int)]) := Lib.hid (fun Xw hW => by rw [hz]; exact HFN.out Xw a _ _ (by omega) hW)
          have HC0 : Hid ((modLt p (.slice A n c) w N a (.slice AW2 nW2 cW2) (.slice AB nB cB) (wRows l p.M d k ++ [row]) (wLast l p.M d k) z).C [] w6.drew) := Lib.hid ⟨by rw [hN]; exact Nat.le_refl _, HM6.out.own (grown_drewN' _ 1) (by simp), HS6.out.kept (grown_drewN' _ 1)⟩
          have HLD : Hid (∀ vs Xw, (modLt p (.slice A n c) w N a (.slice AW2 nW2 cW2) (.slice AB nB cB) (wRows l p.M d k ++ [row]) (wLast l p.M d k) z).C vs Xw → Xw.cell? ⟨w.heap.size + 3, 1, none⟩ = some (.slice AB nB cB)) := Lib.hid (fun vs Xw hC => by
            obtain ⟨_, hC⟩ := hC
            match vs, hC with
            | [], hC => simpa using hC.1.m.cell 1
            | [_], hC => simpa using hC.2.1.m.cell 1
            | [_, _], hC => simpa using hC.2.1.m.cell 1)
          have hON : Hid (w.heap.size + 4 < N) := Lib.hid (by have := HM6.out.cnt.lt; omega)
          have HNB : Hid (w.heap.size + 5 ≤ N) := Lib.hid (by have := HM6.out.cnt.lt; omega)
          clear hz hN ha HM6 HS6
          refine wp_region_late (modLt p (.slice A n c) w N a (.slice AW2 nW2 cW2) (.slice AB nB cB) (wRows l p.M d k ++ [row]) (wLast l p.M d k) z) [3, 5] 7 (by kernel_rfl) (by kernel_rfl) (by kernel_rfl) HC0.out ?_
          -- op 0 (slot 35): fieldAddr
          refine LateR.mono (Qv.eq (.pointer (some ⟨w.heap.size + 3, 1, none⟩))) [] (by kernel_rfl) (by rfl) rfl (fun vs w' hC => ?_) ?_
          · refine askl_do rfl fun K hK => ?_
            go_simp
            exact hK _ _ rfl ⟨rfl, World.grownBy.refl _ none⟩
          -- op 1 (slot 36): load
          refine LateR.mono (Qv.eq (.slice AB nB cB)) [(0, 35)] (by kernel_rfl) (by rfl) rfl (fun vs w' hC => ?_) ?_
          · rintro _ rfl
            refine askl_do rfl fun K hK => ?_
            have q0 := HLD.out vs w' hC
            go_simp
            exact hK _ _ rfl ⟨rfl, World.grownBy.refl _ none⟩
          -- op 2 (slot 37): move
          refine LateR.mono (Qv.eq (.func (.func 39) #[] #[.pointer (some ⟨w.heap.size + 4, 0, none⟩), .pointer (some ⟨w.heap.size + 1, 0, none⟩), .pointer (some ⟨w.heap.size, 0, none⟩)])) [] (by kernel_rfl) (by rfl) rfl (fun vs w' hC => ?_) ?_
          · refine askl_do rfl fun K hK => ?_
            go_simp
            exact hK _ _ rfl ⟨rfl, World.grownBy.refl _ none⟩
          -- op 3 (slot 38): call
          refine LateR.turn 0 [(2, 37)] (by kernel_rfl) rfl (fun vs w' hl hC => ?_) ?_
          · rintro _ rfl
            refine askl_do rfl fun K hK => ?_
            obtain rfl : vs = [] := List.eq_nil_of_length_eq_zero hl
            obtain ⟨g1, g2, g3⟩ := hC
            go_simp
            refine (HNX.out w' g2).mono ?_
            rintro e w3 ⟨rfl, hg3, hb3⟩
            exact hK _ _ rfl ⟨hg3, Nat.le_trans g1 hg3.size, rfl, g2.tick hg3 hb3, g3.keep hg3 (fun g hg e => by injection e with e; omega)⟩
          -- op 4 (slot 39): buildSlice
          refine LateR.mono (modZ N z hON.out) [(3, 38)] (by kernel_rfl) (by rfl) rfl (fun vs w' hC => ?_) ?_
          · intro x38 h38
            refine askl_do rfl fun K hK => ?_
            have hsz := hC.1
            obtain rfl := modLt_at hC h38
            go_simp
            exact hK _ _ rfl ⟨fun _ => ⟨_, rfl, hsz, Bk.new w' _ _⟩, World.grownBy_alloc w' _ none⟩
          -- op 5 (slot 40): call
          refine LateR.turn 1 [(1, 36), (4, 39)] (by kernel_rfl) rfl (fun vs w' hl hC => ?_) ?_
          · rintro _ rfl
            intro x39 h39
            have h39 : vs.length ≤ 1 → BlkQ N 2 (.int .i64 z) x39 w' := h39
            refine askl_do rfl fun K hK => ?_
            obtain ⟨u, rfl⟩ : ∃ u, vs = [u] := List.length_eq_one_iff.1 hl
            obtain ⟨g1, rfl, g2, g3⟩ := hC
            obtain ⟨b39, e39, hb39, hk39⟩ := h39 (Nat.le_refl 1)
            subst e39
            refine pushAt_core (E := encI) el_i64 g3.snd ⟨rfl, HZ.out⟩ (Bk.one hk39) HLB.out (Nat.le_trans HNB.out g1) (g3.new2 (fun g hg => Nat.le_trans (Nat.le_trans HNB.out g1) hg)) (.tmp 36) (.tmp 39) rfl rfl rfl ?_
            intro v3 w3 ha hgr hm
            exact hK _ _ rfl ⟨trivial, Nat.le_trans g1 hgr.size, rfl, g2.own hgr (fun r e => (g3.snd.lt r e).1), g3.two ha hgr hm⟩
          -- op 6 (slot 41): fieldAddr
          refine LateR.mono (Qv.eq (.pointer (some ⟨w.heap.size + 3, 1, none⟩))) [] (by kernel_rfl) (by rfl) rfl (fun vs w' hC => ?_) ?_
          · refine askl_do rfl fun K hK => ?_
            go_simp
            exact hK _ _ rfl ⟨rfl, World.grownBy.refl _ none⟩
          intro vs w7 hvl hC7
          obtain ⟨u, u2, rfl⟩ : ∃ u u2, vs = [u, u2] := by
            match vs, hvl with
            | [u, u2], _ => exact ⟨u, u2, rfl⟩
          intro y0 k0 y1 k1 y2 k2 y3 k3 y4 k4 y5 k5 y6 k6
          show wpList Tryz.prog _ _ _ _ w7
          simp only [Act.put, List.setIfInBounds_toArray, List.set_cons_zero, List.set_cons_succ]
          have e5 : y5 = u2 := by have : some u2 = some y5 := k5; injection this with this; exact this.symm
          have e6 : y6 = .pointer (some ⟨w.heap.size + 3, 1, none⟩) := k6
          subst e5 e6
          obtain ⟨_, _, hM7, hS7⟩ := hC7
          obtain ⟨AB2, nB2, cB2, eB2⟩ := hS7.snd.sl.shape
          subst eB2
          have c51 := hM7.m.cell 1
          have f5 := hM7.m.free
          simp at c51
          have HFIN : Hid (∃ vW vB, WM p (.slice A n c) w.heap.size w ((k + 1) * (d + 1)) vW vB (w7.setCell ⟨w.heap.size + 3, 1, none⟩ (.slice AB2 nB2 cB2)) ∧ SideI (w.heap.size + 5) (w7.setCell ⟨w.heap.size + 3, 1, none⟩ (.slice AB2 nB2 cB2)) vW vB (wRows l p.M d (k + 1)) (wLast l p.M d (k + 1))) := Lib.hid ⟨_, _, by
            rw [show (k + 1) * (d + 1) = a + 1 by rw [HAA.out, HKN.out, Nat.add_mul, Nat.one_mul]; omega]
            exact hM7.set1 _, by
            have e1 : wRows l p.M d (k + 1) = wRows l p.M d k ++ [row] := by rw [HRW.out, HKN.out]; exact wrow_snoc _ _
            have e2 : wLast l p.M d (k + 1) = wLast l p.M d k ++ [z] := by rw [HZZ.out, HKN.out]; exact wrow_snoc _ _
            rw [e1, e2]
            exact hS7.keep (grownSet w7 (w.heap.size + 3) 1 _) (fun g hg e => by injection e with e; omega)⟩
          clear hM7 hS7 k0 k1 k2 k3 k4 k5 k6 HLD HC0 HNX
          go_wp2_with fail
          go_roundg m
          case measure => omega
          case rel => exact ⟨k + 1, by omega, by go_num, HFIN⟩
        | succ m2 =>
          have hin2 : (d : Int) < p.D := by have := HKD.out.2; omega
          have HC := Lib.hid (HFN.out wr (kn + d) vW vB (by omega) HM.out)
          have HZ := Lib.hid (HZI.out (kn + d))
          obtain ⟨z, hz⟩ : ∃ y, y = drw l p.M (kn + d) := ⟨_, rfl⟩
          have HSN : Hid (((List.range (d + 1)).map fun i => drw l p.M (kn + i)) = ((List.range d).map fun i => drw l p.M (kn + i)) ++ [z]) := Lib.hid (by rw [hz]; exact wrow_snoc _ _)
          rw [← hz] at HC HZ
          have HLB : Hid ((((List.range d).map fun i => drw l p.M (kn + i)).length + 1) * 8 ≤ 140737488355328) := Lib.hid (by simp; omega)
          clear hz
          go_wp2_with fail
          refine HC.out.mono ?_
          rintro e w5 ⟨rfl, hg, hb⟩
          have HA5 := Lib.hid (HA.out.keep hg (fun g hg e => by injection e with e; have := HWB.out; omega))
          have HG5 : Hid (wo.grownBy w5 (some (w.heap.size + 4))) := Lib.hid (HG.out.trans hg)
          have HB5 := Lib.hid hb
          have HSZ5 : Hid (wo.heap.size ≤ w5.heap.size) := Lib.hid HG5.out.size
          clear hg hb hp1
          go_wp2_with (at_builtin; refine wpList_push rfl (.tmp 24) (.tmp 27) rfl (E := encI) (y := z) el_i64 HA5.out rfl rfl ⟨rfl, HZ.out⟩ HLB.out HSZ5.out (fun _ h => Nat.le_trans HSZ5.out h) ?_)
          intro v9 w6 ha hg hm
          have HFIN : Hid (Acc encI wo.heap.size 2 (fun g => wo.heap.size ≤ g) w6 v9 ((List.range (d + 1)).map fun i => drw l p.M (kn + i)) ∧ wo.grownBy w6 (some (w.heap.size + 4)) ∧ Bk w6 (w.heap.size + 4) 3 #[.int .i64 ((kn + (d + 1) : Nat) : Int)]) := Lib.hid ⟨by rw [HSN.out]; exact ha, HG5.out.andThen hg (fun j e => .inl (HA5.out.lt j e).1), HB5.out.grown hg (fun e => by have := (HA5.out.lt _ e.symm).1; have := HWB.out; omega)⟩
          clear ha hg hm
          go_wp2_with fail
          go_roundg m2
          case measure => omega
          case rel => exact ⟨d + 1, by omega, by go_num, HFIN⟩
end Go.Proofs.YtiimippmihkgcaaGreatDoor
