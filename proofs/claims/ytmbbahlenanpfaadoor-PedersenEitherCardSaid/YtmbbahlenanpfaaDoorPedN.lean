/- What rows and columns of a matrix tell at places: the same, whichever comes first. No group is wanted. -/
import Derived.Test.YtmbbahlenanpfaaDoorPedG
import Derived.Test.YtmbbahlenanpfaaDoorPedB
import Derived.Test.YtmbbahlenanpfaaDoorGrpM
namespace Go.Proofs.YtmbbahlenanpfaaDoor
open Go Go.RowKit

/-- The product of powers, as the integers have it. -/
def pg (Q i : Int) : List Int → Int → Int
  | [], _ => 1
  | y :: l, e => y ^ e.toNat * pg Q i l (mulI e i Q)
theorem atGo_cg {p : Par} (hm : mayB p.P = true) (i : Int) : ∀ (l : List Int) (x e : Int), Cg p.P (atGo p i l x e) (x * pg p.Q i l e)
  | [], x, e => Cg.of_eq (by simp [atGo, pg])
  | y :: l, x, e => by
    show Cg p.P (atGo p i l (timesI p.P [x, powI y e p.P]) (mulI e i p.Q)) _
    refine (atGo_cg hm i l _ _).trans ?_
    refine (((times_two_cg _ _ _ hm).trans (Cg.mul_left (powI_cg _ _ _ hm) x)).mul_right _).trans (Cg.of_eq ?_)
    simp only [pg, Int.mul_assoc]
theorem atI_cg {p : Par} (hm : mayB p.P = true) (l : List Int) (i : Int) : Cg p.P (atI p l i) (pg p.Q i l (mulI 1 1 p.Q)) := by
  refine (atGo_cg hm i l _ _).trans ?_
  rw [times_nil_eq _ hm]
  exact ((Cg.mod _ _).mul_right _).trans (Cg.of_eq (Int.one_mul _))
theorem atGo_red {p : Par} (hm : mayB p.P = true) (i : Int) : ∀ (l : List Int) (x e : Int), x % p.P = x → atGo p i l x e % p.P = atGo p i l x e
  | [], _, _, h => h
  | y :: l, x, e, _ => by
    refine atGo_red hm i l _ _ ?_
    rw [times_two_eq _ _ _ hm]
    exact Int.emod_emod_of_dvd _ (Int.dvd_refl _)
theorem atI_red {p : Par} (hm : mayB p.P = true) (l : List Int) (i : Int) : atI p l i % p.P = atI p l i := atGo_red hm i l _ _ (by rw [times_nil_eq _ hm]; exact Int.emod_emod_of_dvd _ (Int.dvd_refl _))
theorem atI_of_cg {p : Par} (hm : mayB p.P = true) {l l' : List Int} {i i' : Int} (h : Cg p.P (atI p l i) (atI p l' i')) : atI p l i = atI p l' i' := by
  rw [← atI_red hm l i, ← atI_red hm l' i']
  exact h
/-- Congruence, one by one. -/
def CgL (m : Int) : List Int → List Int → Prop
  | [], [] => True
  | a :: l, b :: k => Cg m a b ∧ CgL m l k
  | _, _ => False
theorem CgL.map {α : Type} {m : Int} {f g : α → Int} : ∀ (l : List α), (∀ x ∈ l, Cg m (f x) (g x)) → CgL m (l.map f) (l.map g)
  | [], _ => trivial
  | x :: l, h => ⟨h x (by simp), CgL.map l fun y hy => h y (by simp [hy])⟩
theorem pg_cg {m Q i : Int} : ∀ {l k : List Int} (e : Int), CgL m l k → Cg m (pg Q i l e) (pg Q i k e)
  | [], [], _, _ => Cg.refl _ _
  | a :: l, b :: k, e, ⟨h1, h2⟩ => (h1.pow _).mul (pg_cg _ h2)
theorem pg_mul {α : Type} {Q i : Int} (f g : α → Int) : ∀ (l : List α) (e : Int), pg Q i (l.map fun x => f x * g x) e = pg Q i (l.map f) e * pg Q i (l.map g) e
  | [], _ => by simp [pg]
  | x :: l, e => by
    simp only [List.map_cons, pg, pg_mul f g l, Int.mul_pow]
    exact mul4 _ _ _ _
theorem pg_pow {α : Type} {Q i : Int} (f : α → Int) (k : Nat) : ∀ (l : List α) (e : Int), pg Q i (l.map fun x => f x ^ k) e = pg Q i (l.map f) e ^ k
  | [], _ => by simp [pg, Int.one_pow]
  | x :: l, e => by
    simp only [List.map_cons, pg, pg_pow f k l, Int.mul_pow]
    rw [← Int.pow_mul, ← Int.pow_mul, Nat.mul_comm]
theorem pg_ones {α : Type} {Q i : Int} : ∀ (l : List α) (e : Int), pg Q i (l.map fun _ => 1) e = 1
  | [], _ => rfl
  | x :: l, e => by simp [pg, pg_ones l, Int.one_pow]
theorem map_getD {l : List Int} {n : Nat} (h : l.length = n) (d : Int) : (List.range n).map (fun j => l[j]?.getD d) = l := by
  subst h
  refine List.ext_getElem (by simp) fun i h1 h2 => ?_
  have h2 : i < l.length := h2
  simp [List.getElem?_eq_getElem h2]
/-- Rows first, or columns first. -/
theorem pg_either {p : Par} {x y : Int} {n : Nat} : ∀ (M : List (List Int)) (e f : Int), (∀ r ∈ M, r.length = n) →
    pg p.Q y ((List.range n).map fun j => pg p.Q x (colI p M j) e) f = pg p.Q x (M.map fun r => pg p.Q y r f) e
  | [], e, f, _ => pg_ones _ _
  | r :: M, e, f, h => by
    have h1 : ∀ j, pg p.Q x (colI p (r :: M) j) e = (r[j]?.getD (timesI p.P [])) ^ e.toNat * pg p.Q x (colI p M j) (mulI e x p.Q) := fun j => rfl
    simp only [h1]
    rw [pg_mul, pg_pow, map_getD (h r (by simp)), pg_either M _ _ fun r hr => h r (by simp [hr])]
    rfl
theorem wide_eq {n : Nat} : ∀ (M : List (List Int)) (k : Nat), (∀ r ∈ M, r.length = n) → k ≤ n → M ≠ [] → M.foldl (fun k c => max k c.length) k = n
  | [], _, _, _, h => absurd rfl h
  | [r], k, h, hk, _ => by
    have := h r (by simp)
    show max k r.length = n
    omega
  | r :: s :: M, k, h, hk, _ => by
    refine wide_eq (s :: M) _ (fun r hr => h r (by simp [hr])) ?_ (by simp)
    have := h r (by simp)
    show max k r.length ≤ n
    omega
theorem either_law {p : Par} (hm : mayB p.P = true) (M : List (List Int)) (n : Nat) (h : ∀ r ∈ M, r.length = n) (hn : M ≠ []) (x y : Int) : atI p (shareI p (turnedI p M) x) y = atI p (shareI p M y) x := by
  have hw : wideI M = n := wide_eq M 0 h (Nat.zero_le _) hn
  refine atI_of_cg hm ((atI_cg hm _ _).trans (Cg.trans ?_ (atI_cg hm _ _).symm))
  have e1 : shareI p (turnedI p M) x = (List.range n).map fun j => atI p (colI p M j) x := by simp [shareI, turnedI, hw, Function.comp_def]
  rw [e1]
  refine (pg_cg _ (CgL.map (g := fun j => pg p.Q x (colI p M j) (mulI 1 1 p.Q)) _ fun j _ => atI_cg hm _ _)).trans ?_
  rw [pg_either M _ _ h]
  exact (pg_cg _ (CgL.map M fun r _ => atI_cg hm r y)).symm
theorem either_all {p : Par} (hm : mayB p.P = true) (m : List (List (List Int))) (n : Nat) (h : ∀ M ∈ m, M ≠ [] ∧ ∀ r ∈ M, r.length = n) (x y : Int) : shareI p (rowComsI p m x) y = shareI p (colComsI p m y) x := by
  simp only [shareI, rowComsI, colComsI, List.map_map]
  refine List.map_congr_left fun M hM => ?_
  exact either_law hm M n (h M hM).2 (h M hM).1 x y
theorem mat_shape (p : Par) (f : List (List (List Int))) (n k : Nat) (hk : 0 < k) (h : ∀ a ∈ f, a.length = k ∧ ∀ r ∈ a, r.length = n) : (matI p f []).length = f.length ∧ ∀ M ∈ matI p f [], (M ≠ [] ∧ M.length = k) ∧ ∀ r ∈ M, r.length = n := by
  refine ⟨by simp [matI, zipS], fun M hM => ?_⟩
  simp only [matI, zipS, List.map_map, List.mem_map, List.mem_range, List.length_nil, Nat.max_zero, Function.comp] at hM
  obtain ⟨i, hi, rfl⟩ := hM
  obtain ⟨h1, h2⟩ := h f[i] (List.getElem_mem hi)
  have hl : (comsI p (f[i]?.getD []) (([] : List (List (List Int)))[i]?.getD [])).length = k := by simp [comsI, zipS, List.getElem?_eq_getElem hi, h1]
  refine ⟨⟨fun e => by rw [e] at hl; simp at hl; omega, hl⟩, fun r hr => ?_⟩
  simp only [comsI, zipS, List.map_map, List.mem_map, List.mem_range, Function.comp, List.getElem?_eq_getElem hi, Option.getD_some] at hr
  obtain ⟨j, hj, rfl⟩ := hr
  simp only [List.getElem?_nil, Option.getD_none, List.length_nil, Nat.max_zero] at hj ⊢
  have := h2 f[i][j] (List.getElem_mem hj)
  simp [comI, zipU, List.getElem?_eq_getElem hj, this]
end Go.Proofs.YtmbbahlenanpfaaDoor
