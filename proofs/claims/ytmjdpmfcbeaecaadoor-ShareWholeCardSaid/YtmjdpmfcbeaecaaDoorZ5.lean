/- The plain law of ShareFits: what shares come to fits what their commitments come to. The plain law of weights at 0: two or three points tell a polynomial's first number. poly.Eval; bivar.wide, reads, Col; walked. consistorylaw20.some, walked; three lists side by side. The plain law of ShareWhole: the shares of T + 1 members come to the secrets, and these are the model's. deal.Model, walked (printed by mk_dealm.py). consistorylaw20.model, walked (printed by mk_whob.py). fixed.Num, fit, within and slices.ContainsFunc at fixed's closures, walked (printed by mk_fixa.py). fixed.numbers, May, Secrets; consistorylaw20.picked, values, walked. fixed.Secrets, walked (printed by mk_fixc.py). The same steps, where the region does not draw its order. What is known of tuples and structs in closed laws. -/
import Derived.Test.YtmjdpmfcbeaecaaDoorZ4
import Derived.IntWalk
import Derived.Deep.DeepCutAuto
namespace Go.Proofs.YtmjdpmfcbeaecaaDoor

/-- The value of a polynomial at i. -/
def evZ (i : Int) : List Int → Int
  | [] => 0
  | x :: l => x + i * evZ i l
theorem valGo_ev {Q i : Int} (hQ : mayB Q = true) : ∀ (l : List (Int × Int)) (v : Int × Int) (e : Int), 0 ≤ v.1 → v.1 < Q → 0 ≤ v.2 → v.2 < Q → valGo Q i l v e = ((v.1 + e * evZ i (l.map (·.1))) % Q, (v.2 + e * evZ i (l.map (·.2))) % Q)
  | [], v, e, h1, h2, h3, h4 => by
    show v = ((v.1 + e * 0) % Q, (v.2 + e * 0) % Q)
    rw [Int.mul_zero, Int.add_zero, Int.add_zero, Int.emod_eq_of_lt h1 h2, Int.emod_eq_of_lt h3 h4]
  | y :: l, v, e, _, _, _, _ => by
    show valGo Q i l (addI v.1 (mulI y.1 e Q) Q, addI v.2 (mulI y.2 e Q) Q) (mulI e i Q) = ((v.1 + e * (y.1 + i * evZ i (l.map (·.1)))) % Q, (v.2 + e * (y.2 + i * evZ i (l.map (·.2)))) % Q)
    rw [valGo_ev hQ l _ _ (addI_bd _ _ _ hQ).1 (addI_bd _ _ _ hQ).2 (addI_bd _ _ _ hQ).1 (addI_bd _ _ _ hQ).2]
    have key : ∀ (s z d : Int), (addI s (mulI z e Q) Q + mulI e i Q * d) % Q = (s + e * (z + i * d)) % Q := fun s z d => by
      rw [addI_yes _ _ _ hQ, mulI_yes _ _ _ hQ, mulI_yes _ _ _ hQ]
      have h1 : Cg Q ((s + z * e % Q) % Q + e * i % Q * d) (s + e * (z + i * d)) := by
        refine (Cg.add ((Cg.mod Q _).trans (Cg.add (Cg.refl Q s) (Cg.mod Q _))) ((Cg.mod Q _).mul_right d)).trans (Cg.of_eq ?_)
        rw [Int.mul_add, Int.mul_comm z e, Int.mul_assoc, Int.add_assoc]
      exact h1
    rw [key, key]
theorem dotZ_lin {α : Type} (i : Int) (f g : α → Int) : ∀ (M : List α) (ks : List Int), dotZ (M.map fun r => f r + i * g r) ks = dotZ (M.map f) ks + i * dotZ (M.map g) ks
  | [], _ => by simp [dotZ]
  | _ :: _, [] => by simp [dotZ]
  | r :: M, k :: ks => by
    show (f r + i * g r) * k + dotZ (M.map fun r => f r + i * g r) ks = f r * k + dotZ (M.map f) ks + i * (g r * k + dotZ (M.map g) ks)
    rw [dotZ_lin i f g M ks, Int.add_mul, Int.mul_add, Int.mul_assoc]
    omega
theorem dotZ_zero {α : Type} : ∀ (M : List α) (ks : List Int), dotZ (M.map fun _ => (0 : Int)) ks = 0
  | [], _ => by simp [dotZ]
  | _ :: _, [] => by simp [dotZ]
  | r :: M, k :: ks => by
    show 0 * k + dotZ (M.map fun _ => (0 : Int)) ks = 0
    rw [dotZ_zero M ks]
    omega
theorem dotZ_cg {α : Type} {Q : Int} (f g : α → Int) (h : ∀ r, Cg Q (f r) (g r)) : ∀ (M : List α) (ks : List Int), Cg Q (dotZ (M.map f) ks) (dotZ (M.map g) ks)
  | [], _ => Cg.refl _ _
  | _ :: _, [] => Cg.refl _ _
  | r :: M, k :: ks => ((h r).mul_right k).add (dotZ_cg f g h M ks)
theorem evZ_cg {Q i : Int} {α : Type} (f g : α → Int) (h : ∀ r, Cg Q (f r) (g r)) : ∀ M : List α, Cg Q (evZ i (M.map f)) (evZ i (M.map g))
  | [] => Cg.refl _ _
  | r :: M => (h r).add ((evZ_cg f g h M).mul_left i)
/-- A sum of polynomials' values is the value of their sum. -/
theorem lin (i : Int) : ∀ (t : Nat) (M : List (List Int)) (ks : List Int), (∀ r ∈ M, r.length = t) → dotZ (M.map (evZ i)) ks = evZ i ((List.range t).map fun j => dotZ (M.map fun r => r[j]?.getD 0) ks)
  | 0, M, ks, h => by
    have e : M.map (evZ i) = M.map fun _ => (0 : Int) := List.map_congr_left fun r hr => by
      have := List.eq_nil_of_length_eq_zero (h r hr)
      subst this
      rfl
    rw [e, dotZ_zero]
    rfl
  | t + 1, M, ks, h => by
    have e1 : M.map (evZ i) = M.map fun r => r[0]?.getD 0 + i * evZ i r.tail := List.map_congr_left fun r hr => by
      cases r with
      | nil => have := h _ hr; simp at this
      | cons x r => rfl
    have e2 : (M.map fun r => evZ i r.tail) = (M.map List.tail).map (evZ i) := by rw [List.map_map]; rfl
    have e3 : ∀ j : Nat, (M.map fun r => r[j + 1]?.getD 0) = (M.map List.tail).map fun r => r[j]?.getD 0 := fun j => by
      rw [List.map_map]
      refine List.map_congr_left fun r hr => ?_
      cases r with
      | nil => have := h _ hr; simp at this
      | cons x r => rfl
    rw [List.range_succ_eq_map, List.map_cons, List.map_map, e1, dotZ_lin i (fun r : List Int => r[0]?.getD 0) (fun r => evZ i r.tail), e2, lin i t (M.map List.tail) ks (fun r hr => by
      obtain ⟨r', hr', rfl⟩ := List.mem_map.1 hr
      have := h r' hr'
      simp
      omega)]
    show _ = dotZ (M.map fun r => r[0]?.getD 0) ks + i * evZ i ((List.range t).map ((fun j => dotZ (M.map fun r => r[j]?.getD 0) ks) ∘ Nat.succ))
    congr 2
    congr 1
    refine List.map_congr_left fun j _ => ?_
    show _ = dotZ (M.map fun r => r[j + 1]?.getD 0) ks
    rw [e3]
/-- What commitments come to. -/
theorem come_commits {p : Par} (h : Good p) : ∀ (l : List (Int × Int)) (ks : List Int) (a : Int × Int), (∀ y ∈ l, 0 ≤ y.1 ∧ 0 ≤ y.2) → (∀ k ∈ ks, 0 ≤ k) → 0 ≤ a.1 → 0 ≤ a.2 → comeU p.P (l.map (commitI p)) ks (commitI p a) = commitI p (comeP p.Q l ks a)
  | [], _, _, _, _, _, _ => by simp [comeU, comeP]
  | _ :: _, [], _, _, _, _, _ => by simp [comeU, comeP]
  | y :: l, k :: ks, a, hl, hk, a1, a2 => by
    obtain ⟨y1, y2⟩ := hl y (by simp)
    have k0 := hk k (by simp)
    have m1 := (mulI_bd y.1 k p.Q h.Q).1
    have m2 := (mulI_bd y.2 k p.Q h.Q).1
    show comeU p.P (l.map (commitI p)) ks (timesI p.P [commitI p a, powI (commitI p y) k p.P]) = commitI p (comeP p.Q l ks (addI a.1 (mulI y.1 k p.Q) p.Q, addI a.2 (mulI y.2 k p.Q) p.Q))
    rw [sums_2 h y k y1 y2 k0, sums_1 h a (mulI y.1 k p.Q, mulI y.2 k p.Q) a1 a2 m1 m2]
    exact come_commits h l ks _ (fun z hz => hl z (List.mem_cons_of_mem _ hz)) (fun z hz => hk z (List.mem_cons_of_mem _ hz)) (addI_bd _ _ _ h.Q).1 (addI_bd _ _ _ h.Q).1
/-- One secret: the pair that shares come to, and the numbers that commitments come to. -/
theorem fit_one {p : Par} (h : Good p) {i : Int} (hi : 0 ≤ i) {t : Nat} {M : List (List (Int × Int))} {ks : List Int} (hM : ∀ l ∈ M, l.length = t ∧ ∀ y ∈ l, 0 ≤ y.1 ∧ 0 ≤ y.2) (hk : ∀ k ∈ ks, 0 ≤ k) (hlen : M.length = ks.length) :
    atI p ((List.range t).map fun j => comeU p.P (M.map fun l => commitI p (l[j]?.getD (0, 0))) ks (timesI p.P [])) i = commitI p (comeP p.Q (M.map fun l => valGo p.Q i l (0, 0) 1) ks (0, 0)) := by
  have h0 := mayB_pos h.Q
  have e1 : ((List.range t).map fun j => comeU p.P (M.map fun l => commitI p (l[j]?.getD (0, 0))) ks (timesI p.P [])) = ((List.range t).map fun j => comeP p.Q (M.map fun l => l[j]?.getD (0, 0)) ks (0, 0)).map (commitI p) := by
    rw [List.map_map]
    refine List.map_congr_left fun j hj => ?_
    show _ = commitI p (comeP p.Q (M.map fun l => l[j]?.getD (0, 0)) ks (0, 0))
    rw [← come_commits h _ ks (0, 0) (fun y hy => by
      obtain ⟨l, hl, rfl⟩ := List.mem_map.1 hy
      have hj' := List.mem_range.1 hj
      have hj2 : j < l.length := by rw [(hM l hl).1]; exact hj'
      rw [List.getElem?_eq_getElem hj2]
      exact (hM l hl).2 _ (List.getElem_mem hj2)) hk (Int.le_refl 0) (Int.le_refl 0), commit_zero h, List.map_map]
    rfl
  have e2 : ∀ (l : List (List (Int × Int))) (f : List (Int × Int) → Int × Int), l.length = ks.length → comeP p.Q (l.map f) ks (0, 0) = (dotZ (l.map fun x => (f x).1) ks % p.Q, dotZ (l.map fun x => (f x).2) ks % p.Q) := fun l f hl => by
    rw [comeP_eq p.Q h.Q _ ks (0, 0) (by simpa using hl) (Int.le_refl 0) h0 (Int.le_refl 0) h0, List.map_map, List.map_map, Int.zero_add, Int.zero_add]
    rfl
  rw [e1, at_commits h i hi _ (fun y hy => by
    obtain ⟨j, _, rfl⟩ := List.mem_map.1 hy
    rw [e2 M _ hlen]
    exact ⟨Int.emod_nonneg _ (by omega), Int.emod_nonneg _ (by omega)⟩)]
  congr 1
  rw [valGo_ev h.Q _ (0, 0) 1 (Int.le_refl 0) h0 (Int.le_refl 0) h0, e2 M _ hlen, List.map_map, List.map_map, Int.zero_add, Int.one_mul, Int.zero_add, Int.one_mul]
  have half : ∀ (g : Int × Int → Int) (hg : g (0, 0) = 0) (f : List (Int × Int) → Int) (hf : ∀ l, Cg p.Q (f l) (evZ i (l.map g))) (c : Nat → Int) (hc : ∀ j, Cg p.Q (c j) (dotZ (M.map fun l => g (l[j]?.getD (0, 0))) ks)), evZ i ((List.range t).map c) % p.Q = dotZ (M.map f) ks % p.Q := fun g hg f hf c hc => by
    have a1 : Cg p.Q (evZ i ((List.range t).map c)) (evZ i ((List.range t).map fun j => dotZ (M.map fun l => g (l[j]?.getD (0, 0))) ks)) := evZ_cg c _ hc _
    have a2 : Cg p.Q (dotZ (M.map f) ks) (dotZ (M.map fun l => evZ i (l.map g)) ks) := dotZ_cg f _ hf M ks
    have a3 := lin i t (M.map fun l => l.map g) ks (fun r hr => by
      obtain ⟨l, hl, rfl⟩ := List.mem_map.1 hr
      rw [List.length_map]
      exact (hM l hl).1)
    rw [List.map_map] at a3
    have a4 : ((List.range t).map fun j => dotZ ((M.map fun l => l.map g).map fun r => r[j]?.getD 0) ks) = (List.range t).map fun j => dotZ (M.map fun l => g (l[j]?.getD (0, 0))) ks := List.map_congr_left fun j _ => by
      rw [List.map_map]
      congr 1
      refine List.map_congr_left fun l _ => ?_
      show ((l.map g)[j]?).getD 0 = g (l[j]?.getD (0, 0))
      rw [List.getElem?_map]
      cases l[j]? with
      | none => exact hg.symm
      | some y => rfl
    rw [a4] at a3
    exact a1.trans ((Cg.of_eq a3.symm).trans a2.symm)
  have v1 : ∀ l : List (Int × Int), Cg p.Q (valGo p.Q i l (0, 0) 1).1 (evZ i (l.map (·.1))) := fun l => by
    rw [valGo_ev h.Q l (0, 0) 1 (Int.le_refl 0) h0 (Int.le_refl 0) h0, Int.zero_add, Int.one_mul]
    exact Cg.mod _ _
  have v2 : ∀ l : List (Int × Int), Cg p.Q (valGo p.Q i l (0, 0) 1).2 (evZ i (l.map (·.2))) := fun l => by
    rw [valGo_ev h.Q l (0, 0) 1 (Int.le_refl 0) h0 (Int.le_refl 0) h0, Int.zero_add, Int.zero_add, Int.one_mul, Int.one_mul]
    exact Cg.mod _ _
  refine Prod.ext ?_ ?_
  · exact half (·.1) rfl _ v1 _ (fun j => by
      show Cg p.Q (comeP p.Q (M.map fun l => l[j]?.getD (0, 0)) ks (0, 0)).1 _
      rw [e2 M _ hlen]
      exact Cg.mod _ _)
  · exact half (·.2) rfl _ v2 _ (fun j => by
      show Cg p.Q (comeP p.Q (M.map fun l => l[j]?.getD (0, 0)) ks (0, 0)).2 _
      rw [e2 M _ hlen]
      exact Cg.mod _ _)
end Go.Proofs.YtmjdpmfcbeaecaaDoor

namespace Go.Proofs.YtmjdpmfcbeaecaaDoor

theorem wAt_cg {q : Int} {xs : List Int} {at_ : Int} {i : Nat} (hq : mayB q = true) (h : HasInv (underI q xs at_ i) q) : Cg q (underI q xs at_ i * wAt q xs at_ i) (overI q xs at_ i) := by
  obtain ⟨_, _, h1⟩ := invI_spec h
  refine ((mulI_cg (invI (underI q xs at_ i) q) (overI q xs at_ i) q hq).mul_left _).trans ?_
  rw [← Int.mul_assoc]
  exact (h1.mul_right _).trans (Cg.of_eq (Int.one_mul _))
theorem cg_cancel {q d s a : Int} (h : HasInv d q) (k : Cg q (d * s) (d * a)) : Cg q s a := by
  obtain ⟨x, _, _, hx⟩ := h
  have key : ∀ s : Int, Cg q (x * (d * s)) s := fun s => by
    rw [← Int.mul_assoc, Int.mul_comm x d]
    exact (hx.mul_right s).trans (Cg.of_eq (Int.one_mul s))
  exact (key s).symm.trans ((k.mul_left x).trans (key a))
theorem diff_inv {q n x y : Int} (hq : mayB q = true) (ha : Apart q n) (hx : 1 ≤ x ∧ x ≤ n) (hy : 1 ≤ y ∧ y ≤ n) (hne : x ≠ y) : HasInv (x - y) q := by
  have h0 := mayB_pos hq
  rcases Int.lt_or_gt_of_ne hne with h | h
  · have := hasInv_neg h0 (ha (y - x) (by omega) (by omega))
    rwa [show -(y - x) = x - y by omega] at this
  · exact ha (x - y) (by omega) (by omega)
theorem under2 {q : Int} (hq : mayB q = true) (x y : Int) : Cg q (underI q [x, y] 0 0) (x - y) ∧ Cg q (underI q [x, y] 0 1) (y - x) ∧ Cg q (overI q [x, y] 0 0) (0 - y) ∧ Cg q (overI q [x, y] 0 1) (0 - x) := by
  have one : ∀ a b : Int, Cg q (mulI (1 % q) (subI a b q) q) (a - b) := fun a b => by
    refine (mulI_cg _ _ _ hq).trans (((Cg.mod q 1).mul (subI_cg _ _ _ hq)).trans (Cg.of_eq (Int.one_mul _)))
  have e1 : underI q [x, y] 0 0 = mulI (1 % q) (subI x y q) q := by simp [underI, othersI, othersUp, List.range_succ, prodI]
  have e2 : underI q [x, y] 0 1 = mulI (1 % q) (subI y x q) q := by simp [underI, othersI, othersUp, List.range_succ, prodI]
  have e3 : overI q [x, y] 0 0 = mulI (1 % q) (subI 0 y q) q := by simp [overI, othersI, othersUp, List.range_succ, prodI]
  have e4 : overI q [x, y] 0 1 = mulI (1 % q) (subI 0 x q) q := by simp [overI, othersI, othersUp, List.range_succ, prodI]
  rw [e1, e2, e3, e4]
  exact ⟨one _ _, one _ _, one _ _, one _ _⟩
theorem under3 {q : Int} (hq : mayB q = true) (x y z : Int) :
    Cg q (underI q [x, y, z] 0 0) ((x - y) * (x - z)) ∧ Cg q (underI q [x, y, z] 0 1) ((y - x) * (y - z)) ∧ Cg q (underI q [x, y, z] 0 2) ((z - x) * (z - y)) ∧ Cg q (overI q [x, y, z] 0 0) ((0 - y) * (0 - z)) ∧ Cg q (overI q [x, y, z] 0 1) ((0 - x) * (0 - z)) ∧ Cg q (overI q [x, y, z] 0 2) ((0 - x) * (0 - y)) := by
  have two : ∀ a b c d : Int, Cg q (mulI (mulI (1 % q) (subI a b q) q) (subI c d q) q) ((a - b) * (c - d)) := fun a b c d => by
    refine (mulI_cg _ _ _ hq).trans (Cg.mul ?_ (subI_cg _ _ _ hq))
    exact (mulI_cg _ _ _ hq).trans (((Cg.mod q 1).mul (subI_cg _ _ _ hq)).trans (Cg.of_eq (Int.one_mul _)))
  have e1 : underI q [x, y, z] 0 0 = mulI (mulI (1 % q) (subI x y q) q) (subI x z q) q := by simp [underI, othersI, othersUp, List.range_succ, prodI]
  have e2 : underI q [x, y, z] 0 1 = mulI (mulI (1 % q) (subI y x q) q) (subI y z q) q := by simp [underI, othersI, othersUp, List.range_succ, prodI]
  have e3 : underI q [x, y, z] 0 2 = mulI (mulI (1 % q) (subI z x q) q) (subI z y q) q := by simp [underI, othersI, othersUp, List.range_succ, prodI]
  have e4 : overI q [x, y, z] 0 0 = mulI (mulI (1 % q) (subI 0 y q) q) (subI 0 z q) q := by simp [overI, othersI, othersUp, List.range_succ, prodI]
  have e5 : overI q [x, y, z] 0 1 = mulI (mulI (1 % q) (subI 0 x q) q) (subI 0 z q) q := by simp [overI, othersI, othersUp, List.range_succ, prodI]
  have e6 : overI q [x, y, z] 0 2 = mulI (mulI (1 % q) (subI 0 x q) q) (subI 0 y q) q := by simp [overI, othersI, othersUp, List.range_succ, prodI]
  rw [e1, e2, e3, e4, e5, e6]
  exact ⟨two _ _ _ _, two _ _ _ _, two _ _ _ _, two _ _ _ _, two _ _ _ _, two _ _ _ _⟩
theorem lag2 {q n x y : Int} (hq : mayB q = true) (ha : Apart q n) (hp : Places n [x, y]) (a b : Int) : Cg q ((a + x * (b + x * 0)) * wAt q [x, y] 0 0 + ((a + y * (b + y * 0)) * wAt q [x, y] 0 1 + 0)) a := by
  have i0 := under_inv hq ha hp 0 0 (by simp)
  have i1 := under_inv hq ha hp 0 1 (by simp)
  obtain ⟨u0, u1, o0, o1⟩ := under2 hq x y
  have k0 := (u0.symm.mul_right _).trans ((wAt_cg hq i0).trans o0)
  have k1 := (u1.symm.mul_right _).trans ((wAt_cg hq i1).trans o1)
  have hx := hp.1 x (by simp)
  have hy := hp.1 y (by simp)
  have hne : x ≠ y := by have := hp.2; simp at this; exact this
  generalize wAt q [x, y] 0 0 = w0 at *
  generalize wAt q [x, y] 0 1 = w1 at *
  refine cg_cancel (diff_inv hq ha hx hy hne) ?_
  have e : (x - y) * ((a + x * (b + x * 0)) * w0 + ((a + y * (b + y * 0)) * w1 + 0)) = (x - y) * w0 * (a + x * b) - (y - x) * w1 * (a + y * b) := by grind
  rw [e]
  refine ((k0.mul_right _).sub (k1.mul_right _)).trans (Cg.of_eq ?_)
  grind
theorem lag3 {q n x y z : Int} (hq : mayB q = true) (ha : Apart q n) (hp : Places n [x, y, z]) (a b c : Int) : Cg q ((a + x * (b + x * (c + x * 0))) * wAt q [x, y, z] 0 0 + ((a + y * (b + y * (c + y * 0))) * wAt q [x, y, z] 0 1 + ((a + z * (b + z * (c + z * 0))) * wAt q [x, y, z] 0 2 + 0))) a := by
  have i0 := under_inv hq ha hp 0 0 (by simp)
  have i1 := under_inv hq ha hp 0 1 (by simp)
  have i2 := under_inv hq ha hp 0 2 (by simp)
  obtain ⟨u0, u1, u2, o0, o1, o2⟩ := under3 hq x y z
  have k0 := (u0.symm.mul_right _).trans ((wAt_cg hq i0).trans o0)
  have k1 := (u1.symm.mul_right _).trans ((wAt_cg hq i1).trans o1)
  have k2 := (u2.symm.mul_right _).trans ((wAt_cg hq i2).trans o2)
  have hx := hp.1 x (by simp)
  have hy := hp.1 y (by simp)
  have hz := hp.1 z (by simp)
  have hne : x ≠ y ∧ x ≠ z ∧ y ≠ z := by have := hp.2; simp at this; exact ⟨this.1.1, this.1.2, this.2⟩
  generalize wAt q [x, y, z] 0 0 = w0 at *
  generalize wAt q [x, y, z] 0 1 = w1 at *
  generalize wAt q [x, y, z] 0 2 = w2 at *
  refine cg_cancel (diff_inv hq ha hx hy hne.1) (cg_cancel (diff_inv hq ha hx hz hne.2.1) (cg_cancel (diff_inv hq ha hy hz hne.2.2) ?_))
  have e : (y - z) * ((x - z) * ((x - y) * ((a + x * (b + x * (c + x * 0))) * w0 + ((a + y * (b + y * (c + y * 0))) * w1 + ((a + z * (b + z * (c + z * 0))) * w2 + 0))))) = (x - y) * (x - z) * w0 * ((y - z) * (a + x * (b + x * c))) - (y - x) * (y - z) * w1 * ((x - z) * (a + y * (b + y * c))) + (z - x) * (z - y) * w2 * ((x - y) * (a + z * (b + z * c))) := by grind
  rw [e]
  refine (((k0.mul_right _).sub (k1.mul_right _)).add (k2.mul_right _)).trans (Cg.of_eq ?_)
  grind
theorem len_two : ∀ {l : List Int}, l.length = 2 → ∃ x y, l = [x, y]
  | [x, y], _ => ⟨x, y, rfl⟩
theorem len_three : ∀ {l : List Int}, l.length = 3 → ∃ x y z, l = [x, y, z]
  | [x, y, z], _ => ⟨x, y, z, rfl⟩
/-- As many points as a polynomial has numbers tell its first. -/
theorem lag {q n : Int} (hq : mayB q = true) (ha : Apart q n) (hn : n < q) {xs l : List Int} (hp : Places n xs) (h : xs.length = 2 ∨ xs.length = 3) (hl : l.length = xs.length) : Cg q (dotZ (xs.map fun x => evZ x l) (wList q xs 0)) (l[0]?.getD 0) := by
  have hw : wList q xs 0 = (List.range xs.length).map (wAt q xs 0) := if_pos (werr_zero hq ha hn hp (by omega) 0)
  rw [hw]
  rcases h with h | h
  · obtain ⟨x, y, rfl⟩ : ∃ x y, xs = [x, y] := len_two h
    obtain ⟨a, b, rfl⟩ : ∃ a b, l = [a, b] := len_two hl
    exact lag2 hq ha hp a b
  · obtain ⟨x, y, z, rfl⟩ : ∃ x y z, xs = [x, y, z] := len_three h
    obtain ⟨a, b, c, rfl⟩ : ∃ a b c, l = [a, b, c] := len_three hl
    exact lag3 hq ha hp a b c
end Go.Proofs.YtmjdpmfcbeaecaaDoor

namespace Go.Proofs.YtmjdpmfcbeaecaaDoor
open Go Go.RowKit

theorem ret_i64 {a b : Int} (h : a = b) : Ending.returned (.int .i64 a) = .returned (.int .i64 b) := by rw [h]
/-- The value of a list of coefficients, the highest one first. -/
def evalGo (q x : Int) (l : List Int) (o : Int) : Int := l.foldl (fun o y => addI (mulI o x q) y q) o
def evalI (q : Int) (c : List Int) (x : Int) : Int := evalGo q x c.reverse 0
theorem evalGo_U64 (q x : Int) : ∀ (l : List Int) (o : Int), U64 o → U64 (evalGo q x l o)
  | [], _, h => h
  | y :: l, _, _ => evalGo_U64 q x l _ (addI_U64 _ _ _)
theorem evalI_U64 (q : Int) (c : List Int) (x : Int) : U64 (evalI q c x) := evalGo_U64 q x _ _ ⟨by decide, by decide⟩
theorem evalGo_snoc (q x : Int) (l : List Int) (j : Nat) (h : j < l.length) (o : Int) : evalGo q x (l.take (j + 1)) o = addI (mulI (evalGo q x (l.take j) o) x q) l[j] q := by
  unfold evalGo
  rw [List.take_succ_eq_append_getElem h, List.foldl_append]
  rfl
theorem reverse_at (l : List Int) (j : Nat) (h : j < l.length) : l.reverse[j]'(by simpa using h) = l[l.length - 1 - j]'(by omega) := by simp
set_option maxRecDepth 100000 in
set_option maxHeartbeats 2000000 in
theorem eval_any (v : Value) (l : List Int) (x q : Int) (X : Nat → Prop) (w : World) (h : Sl encU X w v l) (hx : U64 x) :
    Calls Tryd.prog 79 #[v, .int .u64 x, .int .u64 q] w fun e w' => e = .returned (.int .u64 (evalI q l x)) ∧ w.grownBy w' none := by
  have H := Lib.hid h
  have HX := Lib.hid hx
  obtain ⟨A, c, rfl, hc1, hc2⟩ := h.form
  have HST : Hid (w.grownBy w none ∧ U64 0 ∧ (0 : Int) = evalGo q x (l.reverse.take 0) 0) := Lib.hid ⟨World.grownBy.refl w none, ⟨by decide, by decide⟩, rfl⟩
  clear h hx
  obtain ⟨n, hn⟩ : ∃ n, n = l.length := ⟨_, rfl⟩
  have HN := Lib.hid hn
  rw [← hn] at hc1 ⊢
  have hn9 : (n : Int) ≤ 9223372036854775807 := by omega
  clear hn
  go_enter Tryd.func79, Tryd.ntmps79
  go_wp2_with fail
  go_loopg [7, 11] n (fun g s7 s11 wx => ∃ (j : Nat) (o : Int), j + g = n ∧ s11 = .int .i64 j ∧ s7 = .int .u64 o ∧ Hid (w.grownBy wx none ∧ U64 o ∧ o = evalGo q x (l.reverse.take j) 0))
  case atStart => exact ⟨0, 0, by omega, rfl, rfl, HST⟩
  case round =>
    obtain ⟨j, o, hj, rfl, rfl, HR⟩ := hrel
    cases gk with
    | zero =>
      obtain rfl : j = n := by omega
      have HE : Hid (o = evalI q l x) := Lib.hid (by rw [HR.out.2.2, HN.out, evalI, List.take_of_length_le (by simp)])
      have HG := Lib.hid HR.out.1
      clear HR HST
      go_wp2
      go_ret
      exact ⟨ret_u64 HE.out, HG.out⟩
    | succ m =>
      have hjn : (j : Int) < (n : Int) := by omega
      have hjN : j < l.length := by rw [← HN.out]; omega
      obtain ⟨r, hr⟩ : ∃ r, r + j + 1 = n := ⟨m, by omega⟩
      have hrl : r < l.length := by rw [← HN.out]; omega
      obtain ⟨g, of, c', e, _, _, hcu, hu⟩ := (H.out.kept HR.out.1).atU hrl
      injection e with e1 e2 e3
      subst e1 e3
      have HGd : Hid (w.grownBy wr.drew none) := Lib.hid (grownBy_drewN HR.out.1 1)
      have HC0 := Lib.hid (fun (w' : World) (hw : wr.drew.grownBy w' none) => (H.out.kept (HGd.out.trans hw)).atU hrl)
      have HC : Hid (∀ w', wr.drew.grownBy w' none → w'.cell? ⟨g, of + r, none⟩ = some (.int .u64 l[r])) := Lib.hid (fun w' hw => by
        obtain ⟨g2, of2, c2, e2, _, _, h3, _⟩ := HC0.out w' hw
        injection e2 with e21 e22 e23
        injection e21 with e21
        injection e21 with e24 e25
        subst e24 e25
        exact h3)
      have HY := Lib.hid hu
      have HO := Lib.hid HR.out.2.1
      have HSN : Hid (addI (mulI o x q) l[r] q = evalGo q x (l.reverse.take (j + 1)) 0) := Lib.hid (by
        rw [evalGo_snoc q x l.reverse j (by simpa using hjN), reverse_at l j hjN, ← HR.out.2.2]
        congr 2
        have := HN.out
        omega)
      have e4 : IntKind.i64.wrap ((n : Int) - 1) = (n : Int) - 1 := IntWalk.i64_in _ (by omega)
      have e5 : IntKind.i64.wrap ((n : Int) - 1 - (j : Int)) = (r : Int) := by rw [IntWalk.i64_in _ (by omega)]; omega
      have hr0 : (0 : Int) ≤ (r : Int) := by omega
      have hrn : (r : Int) < (n : Int) := by omega
      clear hcu hu HC0 HR HST e2
      generalize l[r] = y at *
      go_wp2_with fail
      refine wp_region_mono 15 (by kernel_rfl) (by kernel_rfl) ?_
      -- op 0 (slot 14): move
      refine MonoR.step (Pv.eq (.int .u64 o)) [] (by kernel_rfl) (fun w' hw' => ?_) ?_
      · refine ask_do rfl fun K hK => ?_
        go_simp
        exact hK _ _ rfl rfl (World.grownBy.refl _ none)
      -- op 1 (slot 15): move
      refine MonoR.step (Pv.eq (.int .u64 x)) [] (by kernel_rfl) (fun w' hw' => ?_) ?_
      · refine ask_do rfl fun K hK => ?_
        go_simp
        exact hK _ _ rfl rfl (World.grownBy.refl _ none)
      -- op 2 (slot 16): move
      refine MonoR.step (Pv.eq (.int .u64 q)) [] (by kernel_rfl) (fun w' hw' => ?_) ?_
      · refine ask_do rfl fun K hK => ?_
        go_simp
        exact hK _ _ rfl rfl (World.grownBy.refl _ none)
      -- op 3 (slot 17): call
      refine MonoR.step (Pv.eq (.int .u64 (mulI o x q))) [(0, 14), (1, 15), (2, 16)] (by kernel_rfl) (fun w' hw' => ?_) ?_
      · rintro _ rfl
        rintro _ rfl
        rintro _ rfl
        refine ask_do rfl fun K hK => ?_
        go_simp
        refine (mul_gr o x q w' HO.out HX.out).mono ?_
        rintro e w3 ⟨rfl, hg⟩
        exact hK _ _ rfl rfl hg
      -- op 4 (slot 18): move
      refine MonoR.step (Pv.eq (.slice (some ⟨g, of, none⟩) n c)) [] (by kernel_rfl) (fun w' hw' => ?_) ?_
      · refine ask_do rfl fun K hK => ?_
        go_simp
        exact hK _ _ rfl rfl (World.grownBy.refl _ none)
      -- op 5 (slot 19): move
      refine MonoR.step (Pv.eq (.slice (some ⟨g, of, none⟩) n c)) [] (by kernel_rfl) (fun w' hw' => ?_) ?_
      · refine ask_do rfl fun K hK => ?_
        go_simp
        exact hK _ _ rfl rfl (World.grownBy.refl _ none)
      -- op 6 (slot 20): call
      refine MonoR.step (Pv.eq (.int .i64 (n : Int))) [(5, 19)] (by kernel_rfl) (fun w' hw' => ?_) ?_
      · rintro _ rfl
        refine ask_do rfl fun K hK => ?_
        go_simp
        exact hK _ _ rfl rfl (World.grownBy.refl _ none)
      -- op 7 (slot 21): binOp
      refine MonoR.step (Pv.eq (.int .i64 ((n : Int) - 1))) [(6, 20)] (by kernel_rfl) (fun w' hw' => ?_) ?_
      · rintro _ rfl
        refine ask_do rfl fun K hK => ?_
        go_simp
        exact hK _ _ rfl rfl (World.grownBy.refl _ none)
      -- op 8 (slot 22): move
      refine MonoR.step (Pv.eq (.int .i64 (j : Int))) [] (by kernel_rfl) (fun w' hw' => ?_) ?_
      · refine ask_do rfl fun K hK => ?_
        go_simp
        exact hK _ _ rfl rfl (World.grownBy.refl _ none)
      -- op 9 (slot 23): binOp
      refine MonoR.step (Pv.eq (.int .i64 (r : Int))) [(7, 21), (8, 22)] (by kernel_rfl) (fun w' hw' => ?_) ?_
      · rintro _ rfl
        rintro _ rfl
        refine ask_do rfl fun K hK => ?_
        go_simp
        exact hK _ _ rfl rfl (World.grownBy.refl _ none)
      -- op 10 (slot 24): indexAddr
      refine MonoR.step (Pv.eq (.pointer (some ⟨g, of + r, none⟩))) [(4, 18), (9, 23)] (by kernel_rfl) (fun w' hw' => ?_) ?_
      · rintro _ rfl
        rintro _ rfl
        refine ask_do rfl fun K hK => ?_
        go_simp
        exact hK _ _ rfl rfl (World.grownBy.refl _ none)
      -- op 11 (slot 25): load
      refine MonoR.step (Pv.eq (.int .u64 y)) [(10, 24)] (by kernel_rfl) (fun w' hw' => ?_) ?_
      · rintro _ rfl
        refine ask_do rfl fun K hK => ?_
        have hc := HC.out w' hw'
        go_simp
        exact hK _ _ rfl rfl (World.grownBy.refl _ none)
      -- op 12 (slot 26): move
      refine MonoR.step (Pv.eq (.int .u64 q)) [] (by kernel_rfl) (fun w' hw' => ?_) ?_
      · refine ask_do rfl fun K hK => ?_
        go_simp
        exact hK _ _ rfl rfl (World.grownBy.refl _ none)
      -- op 13 (slot 27): call
      refine MonoR.step (Pv.eq (.int .u64 (addI (mulI o x q) y q))) [(3, 17), (11, 25), (12, 26)] (by kernel_rfl) (fun w' hw' => ?_) ?_
      · rintro _ rfl
        rintro _ rfl
        rintro _ rfl
        refine ask_do rfl fun K hK => ?_
        go_simp
        refine (add_gr (mulI o x q) y q w' (mulI_U64 _ _ _) HY.out).mono ?_
        rintro e w3 ⟨rfl, hg⟩
        exact hK _ _ rfl rfl hg
      -- op 14 (slot 7): assign
      refine MonoR.step (Pv.eq (.int .u64 (addI (mulI o x q) y q))) [(13, 27)] (by kernel_rfl) (fun w' hw' => ?_) ?_
      · rintro _ rfl
        refine ask_do rfl fun K hK => ?_
        go_simp
        exact hK _ _ rfl rfl (World.grownBy.refl _ none)
      intro w3 hw3
      iterate 14 (intro _ _)
      rintro _ rfl
      have HE : Hid (w.grownBy w3 none ∧ U64 (addI (mulI o x q) y q) ∧ addI (mulI o x q) y q = evalGo q x (l.reverse.take (j + 1)) 0) := Lib.hid ⟨HGd.out.trans hw3, addI_U64 _ _ _, HSN.out⟩
      clear hw3 e4 e5
      refine wpList_nil ?_
      simp only [Act.put, List.setIfInBounds_toArray, List.set_cons_zero, List.set_cons_succ]
      go_wp2_with fail
      go_roundg m
      case measure => omega
      case rel => exact ⟨j + 1, _, by omega, by go_num, rfl, HE⟩
end Go.Proofs.YtmjdpmfcbeaecaaDoor

namespace Go.Proofs.YtmjdpmfcbeaecaaDoor
open Go Go.RowKit

/-- n unlike members of all, by a number. -/
def someI (n all which : Int) : List Int := (List.range n.toNat).map fun i : Nat => 1 + ((which % 18446744073709551616) % all + (i : Int)) % all
theorem someI_in {n all which : Int} (ha : 0 < all) : ∀ x ∈ someI n all which, 1 ≤ x ∧ x ≤ all := by
  intro x hx
  obtain ⟨i, _, rfl⟩ := List.mem_map.1 hx
  have h1 := Int.emod_nonneg ((which % 18446744073709551616) % all + (i : Int)) (show all ≠ 0 by omega)
  have h2 := Int.emod_lt_of_pos ((which % 18446744073709551616) % all + (i : Int)) ha
  omega
set_option maxHeartbeats 1000000 in
theorem some_any (n : Nat) (all which : Int) (w : World) (hn : n ≤ 7) (ha : 1 ≤ all ∧ all ≤ 7) (hw : I64 which) :
    Calls Tryd.prog 8 #[.int .i64 n, .int .i64 all, .int .i64 which] w (Gives encI (fun g => w.heap.size ≤ g) w (someI n all which)) := by
  obtain ⟨ha1, ha2⟩ := ha
  obtain ⟨hw1, hw2⟩ := hw
  obtain ⟨r, hr⟩ : ∃ r, r = (which % 18446744073709551616) % all := ⟨_, rfl⟩
  have hr1 : 0 ≤ r := by rw [hr]; exact Int.emod_nonneg _ (by omega)
  have hr2 : r < all := by rw [hr]; exact Int.emod_lt_of_pos _ (by omega)
  have HS : Hid (someI n all which = (List.range n).map fun i : Nat => 1 + (r + (i : Int)) % all) := Lib.hid (by rw [hr]; simp [someI])
  have e1 : IntKind.u64.wrap which = which % 18446744073709551616 := rfl
  have e2 : IntKind.u64.wrap all = all := IntWalk.u64_in _ (by omega)
  have e3 : Int.tmod (which % 18446744073709551616) all = r := by rw [hr]; exact Int.tmod_eq_emod_of_nonneg (by omega)
  have e4 : IntKind.i64.wrap r = r := IntWalk.i64_in _ (by omega)
  have HAR : Hid (which % 18446744073709551616 % all = r) := Lib.hid hr.symm
  clear hr
  have hall0 : (all == 0) = false := by simp; omega
  go_enter Tryd.func8, Tryd.ntmps8
  go_wp2_with fail
  go_loopg [7, 8] n (fun g s7 s8 wx => ∃ j : Nat, j + g = n ∧ s8 = .int .i64 j ∧ Hid (Acc encI w.heap.size 3 (fun g => w.heap.size ≤ g) wx s7 ((List.range j).map fun i : Nat => 1 + (r + (i : Int)) % all) ∧ w.grownBy wx none))
  case atStart => exact ⟨0, by omega, rfl, Lib.hid ⟨Acc.nil _ _ _ _ _, World.grownBy.refl _ none⟩⟩
  case round =>
    obtain ⟨j, hj, rfl, HX⟩ := hrel
    cases gk with
    | zero =>
      obtain rfl : j = n := by omega
      have HR : Hid (Sl encI (fun g => w.heap.size ≤ g) wr u7 (someI j all which) ∧ w.grownBy wr none) := Lib.hid ⟨by rw [HS.out]; exact HX.out.1.sl, HX.out.2⟩
      clear HX
      go_wp2
      go_ret
      exact ⟨_, rfl, HR.out.1, HR.out.2⟩
    | succ m =>
      have hjn : (j : Int) < (n : Int) := by omega
      have HSN : Hid (((List.range (j + 1)).map fun i : Nat => 1 + (r + (i : Int)) % all) = ((List.range j).map fun i : Nat => 1 + (r + (i : Int)) % all) ++ [1 + (r + (j : Int)) % all]) := Lib.hid (by simp [List.range_succ])
      obtain ⟨hacc, hg⟩ := HX.out
      have HAC := Lib.hid hacc
      have HG := Lib.hid hg
      have HLB : Hid ((((List.range j).map fun i : Nat => 1 + (r + (i : Int)) % all).length + 1) * 8 ≤ 140737488355328) := Lib.hid (by simp; omega)
      have q1 := Int.emod_nonneg (r + (j : Int)) (show all ≠ 0 by omega)
      have q2 := Int.emod_lt_of_pos (r + (j : Int)) (show 0 < all by omega)
      have e5 : Int.tmod (r + (j : Int)) all = (r + (j : Int)) % all := Int.tmod_eq_emod_of_nonneg (by omega)
      have HI : Hid (I64 (1 + (r + (j : Int)) % all)) := Lib.hid ⟨by omega, by omega⟩
      clear hacc hg HX
      go_wp2_with (at_builtin; refine wpList_pushG rfl (.tmp 14) (.tmp 26) rfl (E := encI) (y := 1 + (r + (j : Int)) % all) el_int HG.out HAC.out (fun _ h => h) ⟨rfl, HI.out⟩ HLB.out rfl rfl ?_)
      intro v2 w2 hacc2 hg2 hgo
      have HFIN : Hid (Acc encI w.heap.size 3 (fun g => w.heap.size ≤ g) w2 v2 ((List.range (j + 1)).map fun i : Nat => 1 + (r + (i : Int)) % all) ∧ w.grownBy w2 none) := Lib.hid ⟨by rw [HSN.out]; simpa using hacc2, hg2⟩
      clear hacc2 hg2 hgo
      go_wp2_with fail
      go_roundg m
      case measure => omega
      case rel => exact ⟨j + 1, by omega, by go_num, HFIN⟩
set_option maxHeartbeats 400000 in
theorem secrets20_any (p : Par) (w : World) :
    Calls Tryd.prog 9 #[p.v] w fun e w' => e = .returned (.int .i64 (secretsI p)) ∧ w.grownBy w' none := by
  go_enter Tryd.func9, Tryd.ntmps9
  go_wp2
  go_ret
  exact ⟨rfl, World.grownBy_alloc w _ none⟩
/-- Three lists built side by side. -/
structure Tri {α β γ : Type} (E : Enc α) (F : Enc β) (G : Enc γ) (base : Nat) (e f g : TypeId) (Z : Nat → Prop) (w : World) (v u t : Value) (xs : List α) (ys : List β) (zs : List γ) : Prop where
  fst : Acc E base e (fun b => Z b ∧ some b ≠ u.ownBlock ∧ some b ≠ t.ownBlock) w v xs
  snd : Acc F base f (fun b => Z b ∧ some b ≠ v.ownBlock ∧ some b ≠ t.ownBlock) w u ys
  trd : Acc G base g (fun b => Z b ∧ some b ≠ v.ownBlock ∧ some b ≠ u.ownBlock) w t zs
section
variable {α β γ : Type} {E : Enc α} {F : Enc β} {G : Enc γ} {base : Nat} {e f g : TypeId} {Z : Nat → Prop} {w w' : World} {v u t v' u' t' : Value} {xs xs' : List α} {ys ys' : List β} {zs zs' : List γ}
theorem Tri.kept (h : Tri E F G base e f g Z w v u t xs ys zs) (hg : w.grownBy w' none) : Tri E F G base e f g Z w' v u t xs ys zs := ⟨h.fst.kept hg, h.snd.kept hg, h.trd.kept hg⟩
theorem Tri.rot (h : Tri E F G base e f g Z w v u t xs ys zs) : Tri F G E base f g e Z w u t v ys zs xs := ⟨h.snd.more fun _ _ x => ⟨x.1, x.2.2, x.2.1⟩, h.trd.more fun _ _ x => ⟨x.1, x.2.2, x.2.1⟩, h.fst⟩
theorem Tri.one (h : Tri E F G base e f g Z w v u t xs ys zs) (ha : Acc E base e (fun b => Z b ∧ some b ≠ u.ownBlock ∧ some b ≠ t.ownBlock) w' v' xs') (hg : w.grownBy w' v.ownBlock) (hm : Moved w v v') : Tri E F G base e f g Z w' v' u t xs' ys zs := by
  have k : ∀ b, b < w.heap.size → some b ≠ v.ownBlock → some b ≠ v'.ownBlock := fun b hb hx e => hm.ne hb (fun e' => hx e'.symm) e.symm
  refine ⟨ha, ?_, ?_⟩
  · have h1 : Acc F base f (fun b => (Z b ∧ some b ≠ v'.ownBlock ∧ some b ≠ t.ownBlock) ∧ some b ≠ v.ownBlock) w u ys := h.snd.more fun b hb hx => ⟨⟨hx.1, k b hb hx.2.1, hx.2.2⟩, hx.2.1⟩
    exact (h1.keep hg fun g hx => hx.2).more fun g _ hx => hx.1
  · have h1 : Acc G base g (fun b => (Z b ∧ some b ≠ v'.ownBlock ∧ some b ≠ u.ownBlock) ∧ some b ≠ v.ownBlock) w t zs := h.trd.more fun b hb hx => ⟨⟨hx.1, k b hb hx.2.1, hx.2.2⟩, hx.2.1⟩
    exact (h1.keep hg fun g hx => hx.2).more fun g _ hx => hx.1
theorem Tri.two (h : Tri E F G base e f g Z w v u t xs ys zs) (ha : Acc F base f (fun b => Z b ∧ some b ≠ v.ownBlock ∧ some b ≠ t.ownBlock) w' u' ys') (hg : w.grownBy w' u.ownBlock) (hm : Moved w u u') : Tri E F G base e f g Z w' v u' t xs ys' zs := ((h.rot.one (ha.more fun _ _ x => ⟨x.1, x.2.2, x.2.1⟩) hg hm).rot.rot)
theorem Tri.three (h : Tri E F G base e f g Z w v u t xs ys zs) (ha : Acc G base g (fun b => Z b ∧ some b ≠ v.ownBlock ∧ some b ≠ u.ownBlock) w' t' zs') (hg : w.grownBy w' t.ownBlock) (hm : Moved w t t') : Tri E F G base e f g Z w' v u t' xs ys zs' := ((h.rot.rot.one (ha.more fun _ _ x => x) hg hm).rot)
theorem Tri.nil (E : Enc α) (F : Enc β) (G : Enc γ) (base : Nat) (e f g : TypeId) (Z : Nat → Prop) (w : World) : Tri E F G base e f g Z w (.slice none 0 0) (.slice none 0 0) (.slice none 0 0) [] [] [] := ⟨Acc.nil _ _ _ _ _, Acc.nil _ _ _ _ _, Acc.nil _ _ _ _ _⟩
theorem Tri.new1 (h : Tri E F G base e f g Z w v u t xs ys zs) (hZ : ∀ b, w.heap.size ≤ b → Z b) : ∀ b, w.heap.size ≤ b → Z b ∧ some b ≠ u.ownBlock ∧ some b ≠ t.ownBlock := fun b hb => ⟨hZ b hb, fun e => by have := (h.snd.lt b e.symm).2; omega, fun e => by have := (h.trd.lt b e.symm).2; omega⟩
theorem Tri.new2 (h : Tri E F G base e f g Z w v u t xs ys zs) (hZ : ∀ b, w.heap.size ≤ b → Z b) : ∀ b, w.heap.size ≤ b → Z b ∧ some b ≠ v.ownBlock ∧ some b ≠ t.ownBlock := fun b hb => ⟨hZ b hb, fun e => by have := (h.fst.lt b e.symm).2; omega, fun e => by have := (h.trd.lt b e.symm).2; omega⟩
theorem Tri.new3 (h : Tri E F G base e f g Z w v u t xs ys zs) (hZ : ∀ b, w.heap.size ≤ b → Z b) : ∀ b, w.heap.size ≤ b → Z b ∧ some b ≠ v.ownBlock ∧ some b ≠ u.ownBlock := fun b hb => ⟨hZ b hb, fun e => by have := (h.fst.lt b e.symm).2; omega, fun e => by have := (h.snd.lt b e.symm).2; omega⟩
end
end Go.Proofs.YtmjdpmfcbeaecaaDoor

namespace Go.Proofs.YtmjdpmfcbeaecaaDoor
open Go.RowKit

theorem evalI_cons' (q : Int) (y : Int) (c : List Int) (x : Int) : evalI q (y :: c) x = addI (mulI (evalI q c x) x q) y q := by simp [evalI, evalGo]
theorem evalI_cg' {q : Int} (hq : mayB q = true) (x : Int) : ∀ (c : List Int), Cg q (evalI q c x) (evZ x c)
  | [] => Cg.refl _ _
  | y :: c => by
    rw [evalI_cons', addI_yes _ _ _ hq, mulI_yes _ _ _ hq]
    refine (Cg.mod _ _).trans (((Cg.mod _ _).trans ((evalI_cg' hq x c).mul_right x)).add (Cg.refl _ y) |>.trans (Cg.of_eq ?_))
    show evZ x c * x + y = y + x * evZ x c
    rw [Int.mul_comm, Int.add_comm]
theorem places_some (k : Nat) (n which : Int) (hn : 1 ≤ n) (hk : (k : Int) ≤ n) : Places n (someI k n which) := by
  refine ⟨someI_in (by omega), ?_⟩
  unfold someI
  rw [Int.toNat_natCast]
  obtain ⟨r, hr⟩ : ∃ r, r = which % 18446744073709551616 % n := ⟨_, rfl⟩
  rw [← hr]
  refine List.pairwise_map.2 (List.Pairwise.imp_of_mem (R := (· < ·)) (fun {a b} ha hb hab => ?_) List.pairwise_lt_range)
  have h1 := List.mem_range.1 ha
  have h2 := List.mem_range.1 hb
  intro e
  have e' : (r + (a : Int)) % n = (r + (b : Int)) % n := by omega
  have hd : n ∣ (r + (b : Int)) - (r + (a : Int)) := Int.dvd_of_emod_eq_zero (by rw [Int.sub_emod, e', Int.sub_self]; rfl)
  obtain ⟨q, hq⟩ := hd
  have h3 : (b : Int) - a = n * q := by omega
  have hq0 : 0 < q := by
    rcases Int.lt_or_le 0 q with h | h
    · exact h
    · have := Int.mul_le_mul_of_nonneg_left h (show (0 : Int) ≤ n by omega)
      omega
  have := Int.mul_le_mul_of_nonneg_left (show (1 : Int) ≤ q by omega) (show (0 : Int) ≤ n by omega)
  omega
/-- What member i has of a dealing. -/
def dealtI (p : Par) (F R : List (List Int)) (i : Int) : List (Int × Int) := (List.range F.length).map fun s => (evalI p.Q (F[s]?.getD []) i, evalI p.Q (R[s]?.getD []) i)
/-- The shares of T + 1 members come to what the polynomials are at 0. -/
theorem who_sum {p : Par} (hm : mayP p = true) (which : Int) {t : Nat} (ht : (t : Int) = p.T + 1) (F R : List (List Int)) (hF : (F.length : Int) = secretsI p) (hl : ∀ f ∈ F, f.length = t) :
    sumE p (someI t p.N which) ((someI t p.N which).map (dealtI p F R)) = 0 ∧ (sumL p (someI t p.N which) ((someI t p.N which).map (dealtI p F R))).map (·.1) = F.map fun f => (f[0]?.getD 0) % p.Q := by
  obtain ⟨hq, hP, ha, n1, n2, n3, t1, t2, t3, hs, k1, d1⟩ := may_apart hm
  obtain ⟨at_, hat⟩ : ∃ a, a = someI t p.N which := ⟨_, rfl⟩
  have hpl : Places p.N at_ := by rw [hat]; exact places_some t p.N which (by omega) (by omega)
  have hlen : at_.length = t := by rw [hat]; simp [someI]
  rw [← hat]
  have hmem : MemOk p at_ (at_.map (dealtI p F R)) := ⟨hm, hpl, by omega, by simp, fun x hx => by
    obtain ⟨i, _, rfl⟩ := List.mem_map.1 hx
    simpa [dealtI] using hF⟩
  refine ⟨sum_good hmem, ?_⟩
  have h0 := mayB_pos hq
  have hw := wlist_length hq ha n3 hpl (by omega) 0
  unfold sumL
  rw [if_pos (sum_good hmem), List.map_map, ← hF, Int.toNat_natCast]
  refine List.ext_getElem (by simp) fun s s1 s2 => ?_
  have hsF : s < F.length := by simpa using s2
  rw [List.getElem_map, List.getElem_range, List.getElem_map]
  show (comeP p.Q ((at_.map (dealtI p F R)).map fun x => x[s]?.getD (0, 0)) (wList p.Q at_ 0) (0, 0)).1 = _
  rw [comeP_eq _ hq _ _ _ (by simp [hw]) (Int.le_refl 0) h0 (Int.le_refl 0) h0]
  show (0 + dotZ (((at_.map (dealtI p F R)).map fun x => x[s]?.getD (0, 0)).map (·.1)) (wList p.Q at_ 0)) % p.Q = _
  rw [Int.zero_add, List.map_map, List.map_map]
  have e1 : at_.map (((·.1) ∘ (fun x : List (Int × Int) => x[s]?.getD (0, 0))) ∘ dealtI p F R) = at_.map fun i => evalI p.Q F[s] i := List.map_congr_left fun i _ => by
    simp [dealtI, hsF]
  rw [e1]
  have h1 := dotZ_cg (fun i => evalI p.Q F[s] i) (fun i => evZ i F[s]) (fun i => evalI_cg' hq i F[s]) at_ (wList p.Q at_ 0)
  have h2 := lag hq ha n3 hpl (by omega) (l := F[s]) (by rw [hlen, hl _ (List.getElem_mem hsF)])
  exact h1.trans h2
/-- The number at a place of a list, as the law draws it. -/
def drw (l : List Int) (M : Int) (a : Nat) : Int := Int.tmod (if 0 < l.length then l[a % l.length]?.getD 0 else Int.tmod (a : Int) 3) (M + 1)
theorem drw_bd (l : List Int) {M : Int} (hM : 1 ≤ M) (a : Nat) : -M ≤ drw l M a ∧ drw l M a ≤ M := by
  unfold drw
  generalize (if 0 < l.length then l[a % l.length]?.getD 0 else Int.tmod (a : Int) 3) = x
  have h1 : (Int.tmod x (M + 1)).natAbs = x.natAbs % (M + 1).natAbs := Int.natAbs_tmod x (M + 1)
  have h2 : x.natAbs % (M + 1).natAbs < (M + 1).natAbs := Nat.mod_lt _ (by omega)
  omega
theorem fixI_back {q d M : Int} (hq : mayB q = true) (hd : -M ≤ d ∧ d ≤ M) (hM : 2 * M < q) : fixI (d % q) q = d := by
  have h0 := mayB_pos hq
  have e : addI (d % q) 0 q = d % q := by rw [addI_yes _ _ _ hq, Int.add_zero]; exact Cg.mod q d
  unfold fixI
  rw [if_neg (by omega), e]
  rcases Int.lt_or_le d 0 with h | h
  · have : d % q = d + q := by
      have h1 : (d + q) % q = d % q := by simp
      rw [← h1]
      exact Int.emod_eq_of_lt (by omega) (by omega)
    rw [this, if_neg (by omega)]
    omega
  · have : d % q = d := Int.emod_eq_of_lt h (by omega)
    rw [this, if_pos (by omega)]
def whoW (p : Par) (l : List Int) : List (List Int) := (List.range p.K.toNat).map fun k => (List.range p.D.toNat).map fun d => drw l p.M (k * (p.D.toNat + 1) + d)
def whoB (p : Par) (l : List Int) : List Int := (List.range p.K.toNat).map fun k => drw l p.M (k * (p.D.toNat + 1) + p.D.toNat)
/-- The secrets, as numbers. -/
def whoS (p : Par) (l : List Int) : List Int := (List.range (secretsI p).toNat).map fun a => drw l p.M a % p.Q
theorem may_sizes {p : Par} (h : mayP p = true) : 1 ≤ p.K ∧ p.K ≤ 2 ∧ 1 ≤ p.D ∧ p.D ≤ 4 ∧ 1 ≤ p.M ∧ p.M ≤ 1048576 ∧ 2 * p.M < p.Q ∧ 1 ≤ p.X ∧ p.X ≤ 1048576 ∧ p.Q ≤ 2305843009213693952 := by
  have hh := h
  simp only [mayP, m5, m7, m8, m9, Bool.and_eq_true, withinB_iff, decide_eq_true_eq] at hh
  obtain ⟨⟨⟨⟨⟨⟨_, a5⟩, _⟩, a7⟩, a8⟩, a9⟩, _⟩ := hh
  obtain ⟨⟨k1, k2⟩, d1, d2⟩ := a5
  obtain ⟨⟨M1, M2⟩, x1, x2⟩ := a7
  have hQ : p.Q ≤ 2305843009213693952 := by
    have hq := a9.1
    unfold primeB at hq
    split at hq
    · cases hq
    · omega
  have h1 : 0 ≤ p.D * p.M * p.X := Int.mul_nonneg (Int.mul_nonneg (by omega) (by omega)) (by omega)
  exact ⟨k1, k2, d1, d2, M1, M2, by omega, x1, x2, hQ⟩
theorem secretsI_eq {p : Par} (h : mayP p = true) : secretsI p = ((p.K.toNat * (p.D.toNat + 1) : Nat) : Int) := by
  obtain ⟨k1, k2, d1, d2, _⟩ := may_sizes h
  have hk : p.K = 1 ∨ p.K = 2 := by omega
  have hd : p.D = 1 ∨ p.D = 2 ∨ p.D = 3 ∨ p.D = 4 := by omega
  unfold secretsI
  rcases hk with hk | hk <;> rcases hd with hd | hd | hd | hd <;> rw [hk, hd] <;> decide +kernel
theorem who_model {p : Par} (hm : mayP p = true) (l : List Int) : modelE p (whoS p l) = 0 ∧ modelW p (whoS p l) = whoW p l ∧ modelB p (whoS p l) = whoB p l := by
  obtain ⟨hq, hP, ha, n1, n2, n3, t1, t2, t3, hs, _, _⟩ := may_apart hm
  obtain ⟨k1, k2, d1, d2, M1, M2, hMQ, x1, x2, hQ⟩ := may_sizes hm
  have hsec := secretsI_eq hm
  have hb : ∀ a, fixI (drw l p.M a % p.Q) p.Q = drw l p.M a := fun a => fixI_back hq (drw_bd l M1 a) hMQ
  have hout : (whoS p l).any (outB p) = false := List.any_eq_false.2 fun x hx => by
    obtain ⟨a, _, rfl⟩ := List.mem_map.1 hx
    have := drw_bd l M1 a
    have hw : wrap64 (-p.M) = -p.M := IntWalk.wrap64_in _ ⟨by omega, by omega⟩
    simp [outB, hb, hw]
    omega
  have hl : (whoS p l).length = p.K.toNat * (p.D.toNat + 1) := by
    unfold whoS
    rw [List.length_map, List.length_range, hsec, Int.toNat_natCast]
  have hE : modelE p (whoS p l) = 0 := by
    unfold modelE
    rw [hs, hout, if_pos (by simp [hl, hsec, k1, d1])]
    rfl
  have hD : (p.D + 1).toNat = p.D.toNat + 1 := by omega
  have hat : ∀ a, a < p.K.toNat * (p.D.toNat + 1) → (whoS p l)[a]? = some (drw l p.M a % p.Q) := fun a h => by
    unfold whoS
    rw [hsec, Int.toNat_natCast, List.getElem?_map, List.getElem?_range h]
    rfl
  have hin : ∀ k, k < p.K.toNat → k * (p.D.toNat + 1) + (p.D.toNat + 1) ≤ p.K.toNat * (p.D.toNat + 1) := fun k h => by
    have := Nat.mul_le_mul_right (p.D.toNat + 1) (show k + 1 ≤ p.K.toNat from h)
    rw [Nat.succ_mul] at this
    exact this
  refine ⟨hE, ?_, ?_⟩
  · unfold modelW whoW chk
    rw [if_pos hE, List.map_map, hD]
    refine List.map_congr_left fun k hk => ?_
    have h1 := hin k (List.mem_range.1 hk)
    show (((List.drop (k * (p.D.toNat + 1)) (whoS p l)).take (p.D.toNat + 1)).take p.D.toNat).map (fun x => fixI x p.Q) = _
    refine List.ext_getElem (by simp [hl]; omega) fun d e1 e2 => ?_
    have hd : d < p.D.toNat := by simpa using e2
    have h2 := hat (k * (p.D.toNat + 1) + d) (by omega)
    obtain ⟨h3, h4⟩ := List.getElem?_eq_some_iff.1 h2
    rw [List.getElem_map, List.getElem_take, List.getElem_take, List.getElem_drop, h4, hb, List.getElem_map, List.getElem_range]
  · unfold modelB whoB chk
    rw [if_pos hE, List.map_map, hD]
    refine List.map_congr_left fun k hk => ?_
    have h1 := hin k (List.mem_range.1 hk)
    show fixI ((((List.drop (k * (p.D.toNat + 1)) (whoS p l)).take (p.D.toNat + 1))[p.D.toNat]?).getD 0) p.Q = _
    rw [List.getElem?_take_of_lt (by omega), List.getElem?_drop, hat _ (by omega)]
    exact hb _
end Go.Proofs.YtmjdpmfcbeaecaaDoor

namespace Go.Proofs.YtmjdpmfcbeaecaaDoor
open Go Go.RowKit Go.Shelf

/-- The polynomials that are drawn, from the k-th draw on: of a secret, and its blinder. -/
def dealF (l : List Int) (q : Int) (dr : Nat → Int) (T k s : Nat) : List Int := behI (l[s]?.getD 0) q dr T (k + s * (2 * T + 1))
def dealR (q : Int) (dr : Nat → Int) (T k s : Nat) : List Int := behI (dr (k + s * (2 * T + 1) + T)) q dr T (k + s * (2 * T + 1) + T + 1)
def dealFs (l : List Int) (q : Int) (dr : Nat → Int) (T k n : Nat) : List (List Int) := (List.range n).map (dealF l q dr T k)
def dealRs (q : Int) (dr : Nat → Int) (T k n : Nat) : List (List Int) := (List.range n).map (dealR q dr T k)
theorem dsnoc {α : Type} (f : Nat → α) (n : Nat) : (List.range (n + 1)).map f = (List.range n).map f ++ [f n] := by simp [List.range_succ]
/-- A slice of one pair in a block made since n. -/
def BlkP (n : Nat) (a b : Int) (v : Value) (w : World) : Prop := ∃ g, v = .slice (some ⟨g, 0, none⟩) 1 1 ∧ n ≤ g ∧ Bk w g 36 #[.int .u64 a, .int .u64 b]
theorem Bk.two {w : World} {b : Nat} {t : TypeId} {u v : Value} (h : Bk w b t #[u, v]) : ∀ j x, [u, v][j]? = some x → w.cell? ⟨b, j, none⟩ = some x := fun j x hv => by rw [h.cell j]; simpa using hv
/-- Where the worlds stand while a pair is put to a share. -/
def evLt (wi : World) (base N : Nat) (v : Value) (xs : List (Int × Int)) (y : Int × Int) : Lt where
  C vs W := wi.grownBy W v.ownBlock ∧ N ≤ W.heap.size ∧ match vs with
    | [] => Acc encP base 36 (fun g => base ≤ g) W v xs
    | [u] => Acc encP base 36 (fun g => base ≤ g) W u (xs ++ [y])
    | _ => False
  R _ _ _ := True
  g := fun {vs X Y} ⟨h1, h2, h3⟩ hg => ⟨h1.trans (hg.but _), Nat.le_trans h2 hg.size, by
    match vs, h3 with
    | [], h3 => exact h3.kept hg
    | [_], h3 => exact h3.kept hg⟩
theorem evLt_vs {wi : World} {base N : Nat} {v : Value} {xs : List (Int × Int)} {y : Int × Int} {vs : List Value} {W : World} (hC : (evLt wi base N v xs y).C vs W) : vs = [] ∨ ∃ u, vs = [u] := by
  obtain ⟨_, _, h⟩ := hC
  match vs, h with
  | [], _ => exact .inl rfl
  | [u], _ => exact .inr ⟨u, rfl⟩
def evP {wi : World} {base N0 : Nat} {v0 : Value} {xs : List (Int × Int)} {y : Int × Int} (N : Nat) (a b : Int) : Qv (evLt wi base N0 v0 xs y) where
  p vs v W := vs = [] → BlkP N a b v W
  fr := 0
  st := fun h hg e => by
    obtain ⟨g, e1, hb, hk⟩ := h e
    exact ⟨g, e1, hb, hk.grown hg (by simp)⟩
  sr := fun _ _ _ _ e => absurd e (by simp)
/-- The pairs of member i + 1 up to secret s. -/
def evsI (p : Par) (F R : List (List Int)) (i s : Nat) : List (Int × Int) := (List.range s).map fun k => (evalI p.Q (F[k]?.getD []) ((i : Int) + 1), evalI p.Q (R[k]?.getD []) ((i : Int) + 1))
theorem evsI_succ (p : Par) (F R : List (List Int)) (i s : Nat) : evsI p F R i (s + 1) = evsI p F R i s ++ [(evalI p.Q (F[s]?.getD []) ((i : Int) + 1), evalI p.Q (R[s]?.getD []) ((i : Int) + 1))] := dsnoc _ _
theorem evsI_all (p : Par) (F R : List (List Int)) (i : Nat) : evsI p F R i F.length = dealtI p F R ((i : Int) + 1) := rfl
set_option maxRecDepth 100000 in
set_option maxHeartbeats 8000000 in
theorem dmodel_any (p : Par) (vl : Value) (l : List Int) (X : Nat → Prop) (w : World) {g : Nat} {dr : Nat → Int} {TI : Nat → World → Prop} {bl : Nat → Prop} {most : Nat} (hT : Tp g p.Q dr TI bl most) (hp : p.ok) (hm : mayP p = true) (hTab : TabsAt w) (h : Sl encU X w vl l) (hX : ∀ b, X b → b ≠ g) (hl : (l.length : Int) = secretsI p) (k0 T : Nat) (hTT : (T : Int) = p.T) (hI : TI k0 w) (hmost : k0 + l.length * (2 * T + 1) ≤ most) :
    Calls Tryd.prog 23 #[p.v, vl, .pointer (some ⟨g, 0, none⟩)] w fun e w' => ∃ vs vc, e = .returned (.tuple #[vs, vc, .int .i64 0]) ∧ Sl (encS encP) TT w' vs ((List.range p.N.toNat).map fun i : Nat => dealtI p (dealFs l p.Q dr T k0 l.length) (dealRs p.Q dr T k0 l.length) ((i : Int) + 1)) ∧ Sl (encS encU) TT w' vc (comsI p (dealFs l p.Q dr T k0 l.length) (dealRs p.Q dr T k0 l.length)) ∧ TI (k0 + l.length * (2 * T + 1)) w' ∧ w.grownBy w' (some g) := by
  have HT := Lib.hid hT
  have HP := Lib.hid hp
  have HX := Lib.hid hX
  obtain ⟨hq, _, _, n1, n2, n3, t1, t2, t3, hs, kk1, dd1⟩ := may_apart hm
  have hsec := smallB_secrets hs
  have HQ : Hid (U64 p.Q ∧ 0 < p.Q) := Lib.hid ⟨hp.Q, mayB_pos hq⟩
  have hL10 : l.length ≤ 10 := by omega
  have hT2 : T ≤ 2 := by omega
  obtain ⟨N, hN⟩ : ∃ k : Nat, (k : Int) = p.N := ⟨p.N.toNat, by omega⟩
  have hNt : p.N.toNat = N := by omega
  have hN7 : N ≤ 7 := by omega
  have HN := Lib.hid hN
  obtain ⟨A, c, rfl, hl1, hl2⟩ := h.form
  have hGW : g < w.heap.size := hT.old hI hT.own
  have HGW := Lib.hid hGW
  have HOB : Hid (∀ b, bl b → b < w.heap.size) := Lib.hid (fun b hb => hT.old hI hb)
  obtain ⟨w0, hw0⟩ : ∃ y, y = w.alloc (Obj.cells p.cells 24) := ⟨_, rfl⟩
  have HG0 : Hid (w.grownBy w0 none) := Lib.hid (by rw [hw0]; exact World.grownBy_alloc w _ none)
  have HB0 : Hid (Bk w0 w.heap.size 24 p.cells) := Lib.hid (by rw [hw0]; exact Bk.new w _ _)
  have HI0 : Hid (TI k0 w0) := Lib.hid (hT.keep hI HG0.out (by simp))
  have HMY := Lib.hid (fun (w' : World) (hg : w0.grownBy w' none) => may_any p w' hp (hTab.kept (HG0.out.trans hg)))
  rw [hm] at HMY
  have HMAY := Lib.hid hm
  have HSEC := Lib.hid (dsecrets_any p)
  rw [← hl] at HSEC
  have HL := Lib.hid (h.kept HG0.out)
  have HTP := Lib.hid hTT
  have HMO := Lib.hid hmost
  have HLS := Lib.hid hl
  rw [hNt]
  clear hT hp hX hq n1 n2 n3 t1 t2 t3 hs kk1 dd1 hsec hm hTab h hI hTT hmost hl hGW hN hNt
  go_enter Tryd.func23, Tryd.ntmps23
  go_wp2_with fail
  rw [← hw0]
  have hp0 := HB0.out.prule
  clear hw0
  go_wp2_with fail
  refine (HMY.out _ (World.grownBy.refl _ none)).mono ?_
  rintro e w1 ⟨rfl, hg⟩
  have HG1 : Hid (w0.grownBy w1 none) := Lib.hid hg
  have hp1 := (HB0.out.grown hg (by simp)).prule
  clear hg hp0 HMY
  go_wp2_with fail
  refine (HSEC.out _).mono ?_
  rintro e w2 ⟨rfl, hg⟩
  have HG2 : Hid (w0.grownBy w2 none) := Lib.hid (HG1.out.trans hg)
  clear hg hp1 HSEC
  go_upto_region 6 with (fail)
  have HB2 : Hid (Bk w2 w.heap.size 24 p.cells) := Lib.hid (HB0.out.grown HG2.out (by simp))
  have HI2 : Hid (TI k0 w2) := Lib.hid (HT.out.keep HI0.out HG2.out (by simp))
  have HW2 : Hid (w.heap.size < w2.heap.size ∧ g < w.heap.size) := Lib.hid ⟨HB2.out.lt, HGW.out⟩
  have HPX : Hid (∀ wx, w2.grownBy wx (some g) → Bk wx w.heap.size 24 p.cells) := Lib.hid (fun wx hg => HB2.out.grown hg (fun e => by injection e with e; have := HW2.out.2; omega))
  have HLX : Hid (∀ wx, w2.grownBy wx (some g) → Sl encU X wx (.slice A l.length c) l) := Lib.hid (fun wx hg => (HL.out.kept HG2.out).keep hg (fun b hb e => HX.out b hb (by injection e with e)))
  have HBH : Hid (∀ (x : Int) (k : Nat) (wx : World), U64 x → k + T ≤ most → TI k wx → Calls Tryd.prog 78 #[.int .u64 x, .int .i64 p.T, .int .u64 p.Q, .func (.func 77) #[.pointer (some ⟨g, 0, none⟩)] #[]] wx fun e w' => ∃ v, e = .returned v ∧ Sl encU (fun b => wx.heap.size ≤ b) w' v (behI x p.Q dr T k) ∧ TI (k + T) w' ∧ wx.grownBy w' (some g)) := Lib.hid (fun x k wx hx hk hi => by
    rw [← HTP.out]
    exact behind_any HT.out x T k wx hx HQ.out.1 HQ.out.2 (by omega) hk hi)
  have HNX : Hid (∀ (k : Nat) (wx : World), k < most → TI k wx → Calls Tryd.prog 77 #[.pointer (some ⟨g, 0, none⟩), .int .u64 p.Q] wx fun e w' => e = .returned (.int .u64 (dr k)) ∧ TI (k + 1) w' ∧ wx.grownBy w' (some g)) := Lib.hid (fun k wx hk hi => HT.out.next hk hi)
  obtain ⟨L, hLL⟩ : ∃ y, y = l.length := ⟨_, rfl⟩
  have HLN := Lib.hid hLL
  rw [← hLL] at hL10 hl1 HMO HLX ⊢
  clear hLL
  go_loopg [10, 11, 31] L (fun gk s10 s11 s31 wx => ∃ s : Nat, s + gk = L ∧ s31 = .int .i64 s ∧ Hid (Side (encS encU) (encS encU) w2.heap.size 37 37 (fun b => w2.heap.size ≤ b) wx s10 s11 (dealFs l p.Q dr T k0 s) (dealRs p.Q dr T k0 s) ∧ TI (k0 + s * (2 * T + 1)) wx ∧ w2.grownBy wx (some g)))
  case atStart => exact ⟨0, by omega, rfl, Lib.hid ⟨⟨Acc.nil _ _ _ _ _, Acc.nil _ _ _ _ _⟩, by simpa using HI2.out, World.grownBy.refl _ _⟩⟩
  case round =>
    obtain ⟨s, hsL, rfl, HXX⟩ := hrel
    have HS0 := Lib.hid HXX.out.1
    have HI3 := Lib.hid HXX.out.2.1
    have HG3 := Lib.hid HXX.out.2.2
    clear HXX
    have hp3 := (HPX.out _ HG3.out).prule
    cases gk with
    | zero =>
      have eL : L = s := by omega
      subst eL
      have hno : ¬ ((L : Int) < (L : Int)) := by omega
      obtain ⟨F, hF⟩ : ∃ y, y = dealFs l p.Q dr T k0 L := ⟨_, rfl⟩
      obtain ⟨R, hR⟩ : ∃ y, y = dealRs p.Q dr T k0 L := ⟨_, rfl⟩
      rw [← hF, ← hR] at HS0
      have HFL : Hid (F.length = L ∧ R.length = L) := Lib.hid (by rw [hF, hR]; simp [dealFs, dealRs])
      have HFT : Hid ((∀ c ∈ F, c.length = T + 1) ∧ (∀ c ∈ R, c.length = T + 1)) := Lib.hid (by
        rw [hF, hR]
        refine ⟨fun c hc => ?_, fun c hc => ?_⟩
        · obtain ⟨i, _, rfl⟩ := List.mem_map.1 hc
          exact behI_len _ _ _ _ _
        · obtain ⟨i, _, rfl⟩ := List.mem_map.1 hc
          exact behI_len _ _ _ _ _)
      have HFE := Lib.hid hF
      have HRE := Lib.hid hR
      obtain ⟨AF, cF, eF, _, _⟩ := HS0.out.fst.sl.form
      obtain ⟨AR, cR, eR, _, _⟩ := HS0.out.snd.sl.form
      rw [HFL.out.1] at eF
      rw [HFL.out.2] at eR
      subst eF eR
      have hmk := run_make_row' (P := Tryd.prog) 32 25 (.slice none 0 0) 24 Tryd.underlying32 info_pairs rfl .i64 .i64 N (by omega) (by omega)
      rw [HN.out] at hmk
      obtain ⟨D0, hD0⟩ : ∃ y, y = wr.alloc (.cells (madeCells #[.slice none 0 0] N) 25) := ⟨_, rfl⟩
      obtain ⟨Bs, hBs⟩ : ∃ y, y = wr.heap.size := ⟨_, rfl⟩
      have HGA : Hid (wr.grownBy D0 none) := Lib.hid (by rw [hD0]; exact World.grownBy_alloc _ _ none)
      have HBO : Hid (Bk D0 Bs 25 (List.replicate N (.slice none 0 0)).toArray) := Lib.hid (by
        rw [hD0, hBs]
        exact (Bk.new wr 25 (madeCells #[.slice none 0 0] N)).of_eq (Array.toList_inj.1 (by rw [toList_madeCells_one])))
      have HBB : Hid (w2.heap.size ≤ Bs ∧ w.heap.size < Bs ∧ g < w.heap.size) := Lib.hid (by rw [hBs]; have := HG3.out.size; have := HW2.out; omega)
      have HBD : Hid (Bk D0 w.heap.size 24 p.cells) := Lib.hid ((HPX.out _ HG3.out).grown HGA.out (by simp))
      have HFD : Hid (Sl (encS encU) (fun b => b < Bs) D0 (.slice AF L cF) F) := Lib.hid ((HS0.out.fst.sl.bounded.kept HGA.out).more fun b _ hb => by rw [hBs]; exact hb.2)
      have HRD : Hid (Sl (encS encU) (fun b => b < Bs) D0 (.slice AR L cR) R) := Lib.hid ((HS0.out.snd.sl.bounded.kept HGA.out).more fun b _ hb => by rw [hBs]; exact hb.2)
      have HID : Hid (TI (k0 + L * (2 * T + 1)) D0) := Lib.hid (HT.out.keep HI3.out HGA.out (by simp))
      have HGD : Hid (w.grownBy D0 (some g)) := Lib.hid (((HG0.out.trans HG2.out).but _).trans (HG3.out.trans (HGA.out.but _)))
      have HLL : Hid ((List.replicate N (Value.slice none 0 0)).length = N) := Lib.hid (by simp)
      have HST : Hid (Bk D0 Bs 25 (List.replicate N (Value.slice none 0 0)).toArray ∧ (∀ i (hi : i < (List.replicate N (Value.slice none 0 0)).length), i < 0 → Sl encP (fun b => Bs < b) D0 (List.replicate N (Value.slice none 0 0))[i] (dealtI p F R ((i : Int) + 1))) ∧ (∀ i (hi : i < (List.replicate N (Value.slice none 0 0)).length), 0 ≤ i → (List.replicate N (Value.slice none 0 0))[i] = .slice none 0 0) ∧ D0.grownBy D0 (some Bs)) := Lib.hid ⟨HBO.out, fun i hi h => absurd h (Nat.not_lt_zero _), fun i hi _ => by simp, World.grownBy.refl _ _⟩
      have HPD : Hid (∀ wx, D0.grownBy wx (some Bs) → Bk wx w.heap.size 24 p.cells) := Lib.hid (fun wx hg => HBD.out.grown hg (fun e => by injection e with e; have := HBB.out; omega))
      have HFX : Hid (∀ wx, D0.grownBy wx (some Bs) → Sl (encS encU) (fun b => b < Bs) wx (.slice AF L cF) F) := Lib.hid (fun wx hg => HFD.out.keep hg (fun b hb e => by injection e with e; omega))
      have HRX : Hid (∀ wx, D0.grownBy wx (some Bs) → Sl (encS encU) (fun b => b < Bs) wx (.slice AR L cR) R) := Lib.hid (fun wx hg => HRD.out.keep hg (fun b hb e => by injection e with e; omega))
      clear hF hR HS0 HI3 HBH HNX HB0 HB2 HBO HBD HFD HRD HPX HLX HG3 HGA
      go_upto_region 13 with (fail)
      rw [← hD0, ← hBs]
      clear hD0 hBs hmk hp3
      go_loopg [64] N (fun gk s64 wx => ∃ (j : Nat) (hs : List Value), j + gk = N ∧ s64 = .int .i64 j ∧ Hid (hs.length = N) ∧ Hid (Bk wx Bs 25 hs.toArray ∧ (∀ i (hi : i < hs.length), i < j → Sl encP (fun b => Bs < b) wx hs[i] (dealtI p F R ((i : Int) + 1))) ∧ (∀ i (hi : i < hs.length), j ≤ i → hs[i] = .slice none 0 0) ∧ D0.grownBy wx (some Bs)))
      case atStart => exact ⟨0, _, by omega, rfl, HLL, HST⟩
      case round =>
        rename World => wj
        obtain ⟨i, hs, hiN, rfl, HLH, HX2⟩ := hrel
        cases gk with
        | zero =>
          obtain rfl : i = N := by omega
          have hno2 : ¬ ((i : Int) < (i : Int)) := by omega
          have HRV : Hid (Sl (encS encP) (fun b => Bs ≤ b) wj (.slice (some ⟨Bs, 0, none⟩) i i) ((List.range i).map fun k : Nat => dealtI p F R ((k : Int) + 1))) := Lib.hid (by
            obtain ⟨h1, h2, _, _⟩ := HX2.out
            have hTL : ((List.range i).map fun k : Nat => dealtI p F R ((k : Int) + 1)).length = i := by simp
            have := Sl.block (E := encS encP) (X := fun b => Bs ≤ b) (xs := (List.range i).map fun k : Nat => dealtI p F R ((k : Int) + 1)) (c := i) h1 (Nat.le_refl _) (hs.map fun v => [v]) (by rw [List.length_map, HLH.out, hTL]) (fun k hk hk' => ⟨hs[k]'(by rw [HLH.out]; omega), by simp, by
              have hc := (h2 k (by rw [HLH.out]; omega) (by omega)).more (Y := fun b => Bs ≤ b) (fun b _ hb => by omega)
              have he : ((List.range i).map fun k : Nat => dealtI p F R ((k : Int) + 1))[k] = dealtI p F R ((k : Int) + 1) := by simp
              rw [he]
              exact hc⟩) (by rw [flatten_singles]) (by rw [hTL]; exact Nat.le_refl _) (by omega)
            rw [hTL] at this
            exact this)
          have HGJ := Lib.hid HX2.out.2.2.2
          have hpj := (HPD.out _ HGJ.out).prule
          have HCM := Lib.hid (callsIn_wide.1 (coms_in 6 (Nat.le_refl _) p (.slice AF L cF) (.slice AR L cR) F R TT wj HP.out ((HFX.out _ HGJ.out).more fun _ _ _ => trivial) ((HRX.out _ HGJ.out).more fun _ _ _ => trivial) (by rw [HFL.out.1]; omega) (by rw [HFL.out.2]; omega) (fun c hc => by
            show c.length ≤ 100000
            rw [HFT.out.1 c hc]
            omega) (fun c hc => by
            show c.length ≤ 100000
            rw [HFT.out.2 c hc]
            omega)))
          clear HX2 HST HLH
          go_wp2_with fail
          refine HCM.out.mono ?_
          rintro e w9 ⟨vc, rfl, hsc, hgc⟩
          have HFIN : Hid (Sl (encS encP) TT w9 (.slice (some ⟨Bs, 0, none⟩) i i) ((List.range i).map fun k : Nat => dealtI p (dealFs l p.Q dr T k0 L) (dealRs p.Q dr T k0 L) ((k : Int) + 1)) ∧ Sl (encS encU) TT w9 vc (comsI p (dealFs l p.Q dr T k0 L) (dealRs p.Q dr T k0 L)) ∧ TI (k0 + L * (2 * T + 1)) w9 ∧ w.grownBy w9 (some g)) := Lib.hid ⟨by
            rw [← HFE.out, ← HRE.out]
            exact (HRV.out.kept hgc).more fun _ _ _ => trivial, by
            rw [← HFE.out, ← HRE.out]
            exact hsc.more fun _ _ _ => trivial, HT.out.keep (HT.out.keep HID.out HGJ.out (fun b e hb => by injection e with e; have := HOB.out b hb; have := HBB.out; omega)) hgc (by simp), HGD.out.andThen (HGJ.out.trans (hgc.but _)) (fun b e => .inl (by injection e with e; have := HBB.out; omega))⟩
          clear hsc hgc hpj
          go_wp2
          go_ret3
          refine ⟨_, _, rfl, ?_⟩
          rw [← HLN.out]
          exact HFIN.out
        | succ m =>
          have hiI : (i : Int) < (N : Int) := by omega
          have hih : i < hs.length := by rw [HLH.out]; omega
          have HIH := Lib.hid hih
          have hjB : Bs < wj.heap.size := HX2.out.1.lt
          have HJB := Lib.hid hjB
          have HIN : Hid (Acc encP wj.heap.size 36 (fun b => wj.heap.size ≤ b) wj (.slice none 0 0) (evsI p F R i 0) ∧ Bk wj Bs 25 (hs.set i (.slice none 0 0)).toArray ∧ wj.grownBy wj (some Bs)) := Lib.hid ⟨Acc.nil _ _ _ _ _, by
            have := HX2.out.2.2.1 i hih (Nat.le_refl _)
            rw [← this, List.set_getElem_self]
            exact HX2.out.1, World.grownBy.refl _ _⟩
          have HGJ := Lib.hid HX2.out.2.2.2
          clear hjB hih
          go_wp2_with fail
          go_loopg [69] L (fun gk s69 wx => ∃ (s : Nat) (v : Value), s + gk = L ∧ s69 = .int .i64 s ∧ Hid (Acc encP wj.heap.size 36 (fun b => wj.heap.size ≤ b) wx v (evsI p F R i s) ∧ Bk wx Bs 25 (hs.set i v).toArray ∧ wj.grownBy wx (some Bs)))
          case atStart => exact ⟨0, _, by omega, rfl, HIN⟩
          case round =>
            rename World => wi
            obtain ⟨s, v, hsL2, rfl, HY⟩ := hrel
            cases gk with
            | zero =>
              obtain rfl : s = L := by omega
              have HFIN : Hid (Bk wi Bs 25 (hs.set i v).toArray ∧ (∀ k (hk : k < (hs.set i v).length), k < i + 1 → Sl encP (fun b => Bs < b) wi (hs.set i v)[k] (dealtI p F R ((k : Int) + 1))) ∧ (∀ k (hk : k < (hs.set i v).length), i + 1 ≤ k → (hs.set i v)[k] = .slice none 0 0) ∧ D0.grownBy wi (some Bs)) := Lib.hid (by
                obtain ⟨h1, h2, h3⟩ := HY.out
                obtain ⟨_, k2, k3, k4⟩ := HX2.out
                refine ⟨h2, fun k hk hij => ?_, fun k hk hij => ?_, HGJ.out.trans h3⟩
                · rcases Nat.lt_or_ge k i with hlt | hge
                  · rw [List.getElem_set_ne (by omega)]
                    exact (k2 k (by simpa using hk) hlt).keep h3 (fun b hb e => by injection e with e; omega)
                  · obtain rfl : k = i := by omega
                    rw [List.getElem_set_self, ← evsI_all p F R k, HFL.out.1]
                    exact h1.sl.more (fun b _ hb => Nat.lt_of_lt_of_le HJB.out hb)
                · rw [List.getElem_set_ne (by omega)]
                  exact k3 k (by simpa using hk) (by omega))
              have HLH2 : Hid ((hs.set i v).length = N) := Lib.hid (by rw [List.length_set]; exact HLH.out)
              clear HX2 HY HST HIN
              go_wp2_with fail
              go_roundg m
              case measure => omega
              case rel => exact ⟨i + 1, _, by omega, by go_num, HLH2, HFIN⟩
            | succ q =>
              have hsI : (s : Int) < (L : Int) := by omega
              have hsF : s < F.length := by rw [HFL.out.1]; omega
              have hsR : s < R.length := by rw [HFL.out.2]; omega
              obtain ⟨hacc, hbo, hgj⟩ := HY.out
              have hgd : D0.grownBy wi (some Bs) := HGJ.out.trans hgj
              obtain ⟨gF, oF, cF', uF, eF, _, hgFl, hcF, hslF⟩ := (HFX.out _ hgd).atS hsF
              injection eF with eF1 eF2 eF3
              subst eF1 eF3
              obtain ⟨gR, oR, cR', uR, eR, _, hgRl, hcR, hslR⟩ := (HRX.out _ hgd).atS hsR
              injection eR with eR1 eR2 eR3
              subst eR1 eR3
              obtain ⟨Af, nf, cf, ef⟩ := hslF.shape
              subst ef
              obtain ⟨Ar, nr, cr, er⟩ := hslR.shape
              subst er
              obtain ⟨Av, nv, cv, ev⟩ := hacc.sl.shape
              subst ev
              have HSN := Lib.hid (evsI_succ p F R i s)
              rw [List.getElem?_eq_getElem hsF, List.getElem?_eq_getElem hsR] at HSN
              have hui : U64 ((i : Int) + 1) := ⟨by omega, by omega⟩
              obtain ⟨ea, hea⟩ : ∃ y, y = evalI p.Q F[s] ((i : Int) + 1) := ⟨_, rfl⟩
              obtain ⟨eb, heb⟩ : ∃ y, y = evalI p.Q R[s] ((i : Int) + 1) := ⟨_, rfl⟩
              simp only [Option.getD_some] at HSN
              rw [← hea, ← heb] at HSN
              have HUA : Hid (U64 ea) := Lib.hid (by rw [hea]; exact evalI_U64 _ _ _)
              have HUB : Hid (U64 eb) := Lib.hid (by rw [heb]; exact evalI_U64 _ _ _)
              obtain ⟨NN, hNN⟩ : ∃ y, y = wi.heap.size := ⟨_, rfl⟩
              have HNB : Hid (wj.heap.size ≤ NN) := Lib.hid (by rw [hNN]; exact hgj.size)
              have hown : ∀ b, (Value.slice Av nv cv).ownBlock = some b → wj.heap.size ≤ b := fun b e => (hacc.lt b e).1
              have hcv0 : wi.cell? ⟨Bs, i, none⟩ = some (.slice Av nv cv) := by rw [hbo.cell i]; simp [HIH.out]
              have hbp := HPD.out _ hgd
              have HNE : Hid (∀ b, b ≤ Bs → some b ≠ (Value.slice Av nv cv).ownBlock) := Lib.hid (fun b hb e => by have := hown b e.symm; have := HJB.out; omega)
              have HC0 : Hid ((evLt wi wj.heap.size NN (.slice Av nv cv) (evsI p F R i s) (ea, eb)).C [] wi.drew) := Lib.hid ⟨(grown_drewN' _ 1).but _, by rw [hNN]; exact Nat.le_refl _, hacc.kept (grown_drewN' _ 1)⟩
              have HLD : Hid (∀ vs W, (evLt wi wj.heap.size NN (.slice Av nv cv) (evsI p F R i s) (ea, eb)).C vs W → W.cell? ⟨w.heap.size, 1, none⟩ = some (.int .u64 p.Q) ∧ W.cell? ⟨gF, oF + s, none⟩ = some (.slice Af nf cf) ∧ W.cell? ⟨gR, oR + s, none⟩ = some (.slice Ar nr cr) ∧ W.cell? ⟨Bs, i, none⟩ = some (.slice Av nv cv)) := Lib.hid (fun vs W hC => ⟨(hbp.grown hC.1 (HNE.out _ (by have := HBB.out; omega))).cell 1, cellK hcF hC.1 (HNE.out _ (by omega)), cellK hcR hC.1 (HNE.out _ (by omega)), cellK hcv0 hC.1 (HNE.out _ (Nat.le_refl _))⟩)
              have HE1 : Hid (∀ vs W, (evLt wi wj.heap.size NN (.slice Av nv cv) (evsI p F R i s) (ea, eb)).C vs W → Calls Tryd.prog 79 #[.slice Af nf cf, .int .u64 ((i : Int) + 1), .int .u64 p.Q] W fun e w' => e = .returned (.int .u64 ea) ∧ W.grownBy w' none) := Lib.hid (fun vs W hC => by
                rw [hea]
                exact eval_any _ F[s] _ p.Q _ W (hslF.keep hC.1 (fun b hb => HNE.out b (by omega))) hui)
              have HE2 : Hid (∀ vs W, (evLt wi wj.heap.size NN (.slice Av nv cv) (evsI p F R i s) (ea, eb)).C vs W → Calls Tryd.prog 79 #[.slice Ar nr cr, .int .u64 ((i : Int) + 1), .int .u64 p.Q] W fun e w' => e = .returned (.int .u64 eb) ∧ W.grownBy w' none) := Lib.hid (fun vs W hC => by
                rw [heb]
                exact eval_any _ R[s] _ p.Q _ W (hslR.keep hC.1 (fun b hb => HNE.out b (by omega))) hui)
              have HSZ : Hid (∀ vs W, (evLt wi wj.heap.size NN (.slice Av nv cv) (evsI p F R i s) (ea, eb)).C vs W → NN ≤ W.heap.size) := Lib.hid (fun vs W hC => hC.2.1)
              have HLB : Hid (((evsI p F R i s).length + 1) * 16 ≤ 140737488355328) := Lib.hid (by simp [evsI]; omega)
              have HFR : Hid (∀ (W : World) (u0 : Value), (evLt wi wj.heap.size NN (.slice Av nv cv) (evsI p F R i s) (ea, eb)).C [u0] W → Acc encP wj.heap.size 36 (fun b => wj.heap.size ≤ b) (W.setCell ⟨Bs, i, none⟩ u0) u0 (evsI p F R i (s + 1)) ∧ Bk (W.setCell ⟨Bs, i, none⟩ u0) Bs 25 (hs.set i u0).toArray ∧ wj.grownBy (W.setCell ⟨Bs, i, none⟩ u0) (some Bs)) := Lib.hid (fun W u0 hC => by
                obtain ⟨g1, _, g3⟩ := hC
                have h3 : Acc encP wj.heap.size 36 (fun b => wj.heap.size ≤ b) W u0 (evsI p F R i (s + 1)) := by rw [HSN.out]; exact g3
                exact ⟨h3.keep (grownSet W Bs i u0) (fun b hb e => by injection e with e; have := HJB.out; omega), ((hbo.grown g1 (HNE.out _ (Nat.le_refl _))).set i u0).of_eq (by simp), ((hgj.andThen g1 (fun b e => .inl (hown b e))).andThen (grownSet W Bs i u0) (fun b e => .inr e))⟩)
              have HFRZ : Hid (∀ (W : World) (vs : List Value), (evLt wi wj.heap.size NN (.slice Av nv cv) (evsI p F R i s) (ea, eb)).C vs W → Bk W Bs 25 (hs.set i (.slice Av nv cv)).toArray) := Lib.hid (fun W vs hC => hbo.grown hC.1 (HNE.out _ (Nat.le_refl _)))
              have hcw : IntKind.u64.wrap ((i : Int) + 1) = (i : Int) + 1 := IntWalk.u64_in _ (by omega)
              have hci : IntKind.i64.wrap ((i : Int) + 1) = (i : Int) + 1 := IntWalk.i64_in _ (by omega)
              have hs0 : (0 : Int) ≤ (s : Int) := Int.natCast_nonneg s
              have hi0 : (0 : Int) ≤ (i : Int) := Int.natCast_nonneg i
              clear hacc hbo hgj hgd hslF hslR hcF hcR hea heb hNN hown hcv0 hbp hgFl hgRl eF2 eR2 HY HIN HST hui hsF hsR
              go_upto_region 18 with (fail)
              refine wp_region_late (evLt wi wj.heap.size NN (.slice Av nv cv) (evsI p F R i s) (ea, eb)) [28] 30 (by kernel_rfl) (by kernel_rfl) (by kernel_rfl) HC0.out ?_
              -- op 0 (slot 72): move
              refine LateR.mono (Qv.eq (.slice (some ⟨Bs, 0, none⟩) N N)) [] (by kernel_rfl) (by rfl) rfl (fun vs w' hC => ?_) ?_
              · refine askl_do rfl fun K hK => ?_
                go_simp
                exact hK _ _ rfl ⟨rfl, World.grownBy.refl _ none⟩
              -- op 1 (slot 73): move
              refine LateR.mono (Qv.eq (.int .i64 (i : Int))) [] (by kernel_rfl) (by rfl) rfl (fun vs w' hC => ?_) ?_
              · refine askl_do rfl fun K hK => ?_
                go_simp
                exact hK _ _ rfl ⟨rfl, World.grownBy.refl _ none⟩
              -- op 2 (slot 74): move
              refine LateR.mono (Qv.eq (.slice (some ⟨Bs, 0, none⟩) N N)) [] (by kernel_rfl) (by rfl) rfl (fun vs w' hC => ?_) ?_
              · refine askl_do rfl fun K hK => ?_
                go_simp
                exact hK _ _ rfl ⟨rfl, World.grownBy.refl _ none⟩
              -- op 3 (slot 75): move
              refine LateR.mono (Qv.eq (.int .i64 (i : Int))) [] (by kernel_rfl) (by rfl) rfl (fun vs w' hC => ?_) ?_
              · refine askl_do rfl fun K hK => ?_
                go_simp
                exact hK _ _ rfl ⟨rfl, World.grownBy.refl _ none⟩
              -- op 4 (slot 76): indexAddr
              refine LateR.mono (Qv.eq (.pointer (some ⟨Bs, i, none⟩))) [(2, 74), (3, 75)] (by kernel_rfl) (by rfl) rfl (fun vs w' hC => ?_) ?_
              · rintro _ rfl
                rintro _ rfl
                refine askl_do rfl fun K hK => ?_
                go_simp
                exact hK _ _ rfl ⟨rfl, World.grownBy.refl _ none⟩
              -- op 5 (slot 77): load
              refine LateR.mono (Qv.eq (.slice Av nv cv)) [(4, 76)] (by kernel_rfl) (by rfl) rfl (fun vs w' hC => ?_) ?_
              · rintro _ rfl
                refine askl_do rfl fun K hK => ?_
                obtain ⟨q0, q1, q2, q3⟩ := HLD.out vs w' hC
                go_simp
                exact hK _ _ rfl ⟨rfl, World.grownBy.refl _ none⟩
              -- op 6 (slot 78): move
              refine LateR.mono (Qv.eq (.slice (some ⟨gF, oF, none⟩) L cF)) [] (by kernel_rfl) (by rfl) rfl (fun vs w' hC => ?_) ?_
              · refine askl_do rfl fun K hK => ?_
                go_simp
                exact hK _ _ rfl ⟨rfl, World.grownBy.refl _ none⟩
              -- op 7 (slot 79): move
              refine LateR.mono (Qv.eq (.int .i64 (s : Int))) [] (by kernel_rfl) (by rfl) rfl (fun vs w' hC => ?_) ?_
              · refine askl_do rfl fun K hK => ?_
                go_simp
                exact hK _ _ rfl ⟨rfl, World.grownBy.refl _ none⟩
              -- op 8 (slot 80): indexAddr
              refine LateR.mono (Qv.eq (.pointer (some ⟨gF, oF + s, none⟩))) [(6, 78), (7, 79)] (by kernel_rfl) (by rfl) rfl (fun vs w' hC => ?_) ?_
              · rintro _ rfl
                rintro _ rfl
                refine askl_do rfl fun K hK => ?_
                go_simp
                exact hK _ _ rfl ⟨rfl, World.grownBy.refl _ none⟩
              -- op 9 (slot 81): load
              refine LateR.mono (Qv.eq (.slice Af nf cf)) [(8, 80)] (by kernel_rfl) (by rfl) rfl (fun vs w' hC => ?_) ?_
              · rintro _ rfl
                refine askl_do rfl fun K hK => ?_
                obtain ⟨q0, q1, q2, q3⟩ := HLD.out vs w' hC
                go_simp
                exact hK _ _ rfl ⟨rfl, World.grownBy.refl _ none⟩
              -- op 10 (slot 82): move
              refine LateR.mono (Qv.eq (.int .i64 (i : Int))) [] (by kernel_rfl) (by rfl) rfl (fun vs w' hC => ?_) ?_
              · refine askl_do rfl fun K hK => ?_
                go_simp
                exact hK _ _ rfl ⟨rfl, World.grownBy.refl _ none⟩
              -- op 11 (slot 83): binOp
              refine LateR.mono (Qv.eq (.int .i64 ((i : Int) + 1))) [(10, 82)] (by kernel_rfl) (by rfl) rfl (fun vs w' hC => ?_) ?_
              · rintro _ rfl
                refine askl_do rfl fun K hK => ?_
                go_simp
                exact hK _ _ rfl ⟨rfl, World.grownBy.refl _ none⟩
              -- op 12 (slot 84): convert
              refine LateR.mono (Qv.eq (.int .u64 ((i : Int) + 1))) [(11, 83)] (by kernel_rfl) (by rfl) rfl (fun vs w' hC => ?_) ?_
              · rintro _ rfl
                refine askl_do rfl fun K hK => ?_
                go_simp
                exact hK _ _ rfl ⟨rfl, World.grownBy.refl _ none⟩
              -- op 13 (slot 85): fieldAddr
              refine LateR.mono (Qv.eq (.pointer (some ⟨w.heap.size, 1, none⟩))) [] (by kernel_rfl) (by rfl) rfl (fun vs w' hC => ?_) ?_
              · refine askl_do rfl fun K hK => ?_
                go_simp
                exact hK _ _ rfl ⟨rfl, World.grownBy.refl _ none⟩
              -- op 14 (slot 86): load
              refine LateR.mono (Qv.eq (.int .u64 p.Q)) [(13, 85)] (by kernel_rfl) (by rfl) rfl (fun vs w' hC => ?_) ?_
              · rintro _ rfl
                refine askl_do rfl fun K hK => ?_
                obtain ⟨q0, q1, q2, q3⟩ := HLD.out vs w' hC
                go_simp
                exact hK _ _ rfl ⟨rfl, World.grownBy.refl _ none⟩
              -- op 15 (slot 87): call
              refine LateR.mono (Qv.eq (.int .u64 ea)) [(9, 81), (12, 84), (14, 86)] (by kernel_rfl) (by rfl) rfl (fun vs w' hC => ?_) ?_
              · rintro _ rfl
                rintro _ rfl
                rintro _ rfl
                refine askl_do rfl fun K hK => ?_
                go_simp
                refine (HE1.out vs w' hC).mono ?_
                rintro e w3 ⟨rfl, hg3⟩
                exact hK _ _ rfl ⟨rfl, hg3⟩
              -- op 16 (slot 88): move
              refine LateR.mono (Qv.eq (.slice (some ⟨gR, oR, none⟩) L cR)) [] (by kernel_rfl) (by rfl) rfl (fun vs w' hC => ?_) ?_
              · refine askl_do rfl fun K hK => ?_
                go_simp
                exact hK _ _ rfl ⟨rfl, World.grownBy.refl _ none⟩
              -- op 17 (slot 89): move
              refine LateR.mono (Qv.eq (.int .i64 (s : Int))) [] (by kernel_rfl) (by rfl) rfl (fun vs w' hC => ?_) ?_
              · refine askl_do rfl fun K hK => ?_
                go_simp
                exact hK _ _ rfl ⟨rfl, World.grownBy.refl _ none⟩
              -- op 18 (slot 90): indexAddr
              refine LateR.mono (Qv.eq (.pointer (some ⟨gR, oR + s, none⟩))) [(16, 88), (17, 89)] (by kernel_rfl) (by rfl) rfl (fun vs w' hC => ?_) ?_
              · rintro _ rfl
                rintro _ rfl
                refine askl_do rfl fun K hK => ?_
                go_simp
                exact hK _ _ rfl ⟨rfl, World.grownBy.refl _ none⟩
              -- op 19 (slot 91): load
              refine LateR.mono (Qv.eq (.slice Ar nr cr)) [(18, 90)] (by kernel_rfl) (by rfl) rfl (fun vs w' hC => ?_) ?_
              · rintro _ rfl
                refine askl_do rfl fun K hK => ?_
                obtain ⟨q0, q1, q2, q3⟩ := HLD.out vs w' hC
                go_simp
                exact hK _ _ rfl ⟨rfl, World.grownBy.refl _ none⟩
              -- op 20 (slot 92): move
              refine LateR.mono (Qv.eq (.int .i64 (i : Int))) [] (by kernel_rfl) (by rfl) rfl (fun vs w' hC => ?_) ?_
              · refine askl_do rfl fun K hK => ?_
                go_simp
                exact hK _ _ rfl ⟨rfl, World.grownBy.refl _ none⟩
              -- op 21 (slot 93): binOp
              refine LateR.mono (Qv.eq (.int .i64 ((i : Int) + 1))) [(20, 92)] (by kernel_rfl) (by rfl) rfl (fun vs w' hC => ?_) ?_
              · rintro _ rfl
                refine askl_do rfl fun K hK => ?_
                go_simp
                exact hK _ _ rfl ⟨rfl, World.grownBy.refl _ none⟩
              -- op 22 (slot 94): convert
              refine LateR.mono (Qv.eq (.int .u64 ((i : Int) + 1))) [(21, 93)] (by kernel_rfl) (by rfl) rfl (fun vs w' hC => ?_) ?_
              · rintro _ rfl
                refine askl_do rfl fun K hK => ?_
                go_simp
                exact hK _ _ rfl ⟨rfl, World.grownBy.refl _ none⟩
              -- op 23 (slot 95): fieldAddr
              refine LateR.mono (Qv.eq (.pointer (some ⟨w.heap.size, 1, none⟩))) [] (by kernel_rfl) (by rfl) rfl (fun vs w' hC => ?_) ?_
              · refine askl_do rfl fun K hK => ?_
                go_simp
                exact hK _ _ rfl ⟨rfl, World.grownBy.refl _ none⟩
              -- op 24 (slot 96): load
              refine LateR.mono (Qv.eq (.int .u64 p.Q)) [(23, 95)] (by kernel_rfl) (by rfl) rfl (fun vs w' hC => ?_) ?_
              · rintro _ rfl
                refine askl_do rfl fun K hK => ?_
                obtain ⟨q0, q1, q2, q3⟩ := HLD.out vs w' hC
                go_simp
                exact hK _ _ rfl ⟨rfl, World.grownBy.refl _ none⟩
              -- op 25 (slot 97): call
              refine LateR.mono (Qv.eq (.int .u64 eb)) [(19, 91), (22, 94), (24, 96)] (by kernel_rfl) (by rfl) rfl (fun vs w' hC => ?_) ?_
              · rintro _ rfl
                rintro _ rfl
                rintro _ rfl
                refine askl_do rfl fun K hK => ?_
                go_simp
                refine (HE2.out vs w' hC).mono ?_
                rintro e w3 ⟨rfl, hg3⟩
                exact hK _ _ rfl ⟨rfl, hg3⟩
              -- op 26 (slot 98): build
              refine LateR.mono (Qv.eq (.agg #[.int .u64 ea, .int .u64 eb])) [(15, 87), (25, 97)] (by kernel_rfl) (by rfl) rfl (fun vs w' hC => ?_) ?_
              · rintro _ rfl
                rintro _ rfl
                refine askl_do rfl fun K hK => ?_
                go_simp
                exact hK _ _ rfl ⟨rfl, World.grownBy.refl _ none⟩
              -- op 27 (slot 99): buildSlice
              refine LateR.mono (evP NN ea eb) [(26, 98)] (by kernel_rfl) (by rfl) rfl (fun vs w' hC => ?_) ?_
              · rintro _ rfl
                refine askl_do rfl fun K hK => ?_
                have hsz := HSZ.out vs w' hC
                go_simp
                exact hK _ _ rfl ⟨fun _ => ⟨_, rfl, hsz, Bk.new w' _ _⟩, World.grownBy_alloc w' _ none⟩
              -- op 28 (slot 100): call
              refine LateR.turn 0 [(5, 77), (27, 99)] (by kernel_rfl) rfl (fun vs w' hl hC => ?_) ?_
              · rintro _ rfl
                intro x99 h99
                have h99 : vs = [] → BlkP NN ea eb x99 w' := h99
                refine askl_do rfl fun K hK => ?_
                obtain rfl : vs = [] := List.eq_nil_of_length_eq_zero hl
                obtain ⟨g1, g2, g3⟩ := hC
                obtain ⟨b99, e99, hb99, hk99⟩ := h99 rfl
                subst e99
                refine pushAt_core (E := encP) (y := (ea, eb)) el_pair g3 ⟨rfl, HUA.out, HUB.out⟩ (Bk.two hk99) HLB.out (Nat.le_trans HNB.out g2) (fun g hg => Nat.le_trans (Nat.le_trans HNB.out g2) hg) (.tmp 77) (.tmp 99) rfl rfl rfl ?_
                intro v3 w3 ha hgr hm
                exact hK _ _ rfl ⟨trivial, g1.trans hgr, Nat.le_trans g2 hgr.size, ha⟩
              -- op 29 (slot 101): indexAddr
              refine LateR.mono (Qv.eq (.pointer (some ⟨Bs, i, none⟩))) [(0, 72), (1, 73)] (by kernel_rfl) (by rfl) rfl (fun vs w' hC => ?_) ?_
              · rintro _ rfl
                rintro _ rfl
                refine askl_do rfl fun K hK => ?_
                go_simp
                exact hK _ _ rfl ⟨rfl, World.grownBy.refl _ none⟩
              intro vs w5 hvl hC5
              obtain ⟨u, rfl⟩ : ∃ u, vs = [u] := List.length_eq_one_iff.1 hvl
              intro y0 k0 y1 k1 y2 k2 y3 k3 y4 k4 y5 k5 y6 k6 y7 k7 y8 k8 y9 k9 y10 k10 y11 k11 y12 k12 y13 k13 y14 k14 y15 k15 y16 k16 y17 k17 y18 k18 y19 k19 y20 k20 y21 k21 y22 k22 y23 k23 y24 k24 y25 k25 y26 k26 y27 k27 y28 k28 y29 k29
              show wpList Tryd.prog _ _ _ _ w5
              simp only [Act.put, List.setIfInBounds_toArray, List.set_cons_zero, List.set_cons_succ]
              have e28 : y28 = u := by have : some u = some y28 := k28; injection this with this; exact this.symm
              have e29 : y29 = .pointer (some ⟨Bs, i, none⟩) := k29
              subst e28 e29
              have HF5 := Lib.hid (HFR.out w5 y28 hC5)
              have hz5 := HFRZ.out w5 _ hC5
              have c5 : w5.cell? ⟨Bs, i, none⟩ = some (.slice Av nv cv) := by rw [hz5.cell i]; simp [HIH.out]
              have f5 := hz5.free
              have HA5 : Hid (Acc encP wj.heap.size 36 (fun b => wj.heap.size ≤ b) w5 y28 (evsI p F R i s ++ [(ea, eb)])) := Lib.hid hC5.2.2
              obtain ⟨Au, nu, cu, eu⟩ := HA5.out.sl.shape
              subst eu
              clear hC5 hz5 HA5 k0 k1 k2 k3 k4 k5 k6 k7 k8 k9 k10 k11 k12 k13 k14 k15 k16 k17 k18 k19 k20 k21 k22 k23 k24 k25 k26 k27 k28 k29 HLD HSZ HFR HFRZ HC0 HE1 HE2
              go_wp2_with fail
              go_roundg q
              case measure => omega
              case rel => exact ⟨s + 1, _, by omega, by go_num, HF5⟩
    | succ m =>
      have hin : (s : Int) < (L : Int) := by omega
      have hsl : s < l.length := by have := HLN.out; omega
      obtain ⟨gl, ol, cl, el, _, _, hcl, hul⟩ := (HLX.out _ HG3.out).atU hsl
      injection el with el1 el2 el3
      subst el1 el3
      obtain ⟨kb, hkb⟩ : ∃ y, y = k0 + s * (2 * T + 1) := ⟨_, rfl⟩
      have hkm : kb + (2 * T + 1) ≤ most := by
        have h1 : (s + 1) * (2 * T + 1) ≤ L * (2 * T + 1) := Nat.mul_le_mul_right _ (by omega)
        have h2 := HMO.out
        rw [Nat.add_mul, Nat.one_mul] at h1
        omega
      have HKN : Hid (k0 + (s + 1) * (2 * T + 1) = kb + T + 1 + T) := Lib.hid (by rw [hkb, Nat.add_mul, Nat.one_mul]; omega)
      have HFN : Hid (dealFs l p.Q dr T k0 (s + 1) = dealFs l p.Q dr T k0 s ++ [behI l[s] p.Q dr T kb]) := Lib.hid (by
        rw [hkb]
        refine (dsnoc _ _).trans ?_
        show _ ++ [behI (l[s]?.getD 0) p.Q dr T (k0 + s * (2 * T + 1))] = _
        rw [List.getElem?_eq_getElem hsl]
        rfl)
      have HRN : Hid (dealRs p.Q dr T k0 (s + 1) = dealRs p.Q dr T k0 s ++ [behI (dr (kb + T)) p.Q dr T (kb + T + 1)]) := Lib.hid (by
        rw [hkb]
        exact dsnoc _ _)
      rw [← hkb] at HI3
      have HB1 := Lib.hid (HBH.out l[s] kb wr hul (by omega) HI3.out)
      obtain ⟨y, hy⟩ : ∃ y, y = behI l[s] p.Q dr T kb := ⟨_, rfl⟩
      rw [← hy] at HFN HB1
      obtain ⟨z, hz⟩ : ∃ y, y = behI (dr (kb + T)) p.Q dr T (kb + T + 1) := ⟨_, rfl⟩
      rw [← hz] at HRN
      have HZ := Lib.hid hz
      have HLF : Hid (((dealFs l p.Q dr T k0 s).length + 1) * 24 ≤ 140737488355328) := Lib.hid (by simp [dealFs]; omega)
      have HLR : Hid (((dealRs p.Q dr T k0 s).length + 1) * 24 ≤ 140737488355328) := Lib.hid (by simp [dealRs]; omega)
      have HOWN : Hid ((∀ r, u10.ownBlock = some r → r < wr.heap.size) ∧ (∀ r, u11.ownBlock = some r → r < wr.heap.size)) := Lib.hid ⟨fun r e => (HS0.out.fst.lt r e).2, fun r e => (HS0.out.snd.lt r e).2⟩
      have HZR : Hid (w2.heap.size ≤ wr.heap.size) := Lib.hid HG3.out.size
      clear hkb hy hz el2
      generalize l[s] = x at *
      go_wp2_with fail
      refine HB1.out.mono ?_
      rintro e w3 ⟨v42, rfl, hs3, hi3, hg3⟩
      obtain ⟨A42, n42, c42, rfl⟩ := hs3.shape
      have HG4 : Hid (w2.grownBy w3 (some g)) := Lib.hid (HG3.out.trans hg3)
      have HI4 := Lib.hid hi3
      have HS4 := Lib.hid (HS0.out.keep hg3 (fun b hb e => by injection e with e; have := HW2.out; omega))
      have HREP : Hid ((encS encU).rep (fun b => (w2.heap.size ≤ b ∧ some b ≠ u11.ownBlock) ∧ some b ≠ u10.ownBlock) w3 [.slice A42 n42 c42] y) := Lib.hid ⟨_, rfl, hs3.more fun b _ hb => ⟨⟨Nat.le_trans HZR.out hb, fun e => by have := HOWN.out.2 b e.symm; omega⟩, fun e => by have := HOWN.out.1 b e.symm; omega⟩⟩
      have HZ4 : Hid (w2.heap.size ≤ w3.heap.size) := Lib.hid HG4.out.size
      clear hs3 hi3 hg3 hp3 hcl
      go_wp2_with (at_builtin; refine wpList_push rfl (.tmp 35) (.tmp 43) rfl (E := encS encU) (y := y) el_nums HS4.out.fst rfl rfl HREP.out HLF.out HZ4.out (HS4.out.new1 (fun _ h => Nat.le_trans HZ4.out h)) ?_)
      intro v10 w4 ha hg hm
      have HS5 := Lib.hid (HS4.out.one ha hg hm)
      have HG5 : Hid (w2.grownBy w4 (some g)) := Lib.hid (HG4.out.andThen hg (fun j e => .inl (HS4.out.fst.lt j e).1))
      have HI5 : Hid (TI (kb + T) w4) := Lib.hid (HT.out.keep HI4.out hg (fun b e hb => by have := (HS4.out.fst.lt b e).1; have := HOB.out b hb; have := HW2.out; omega))
      obtain ⟨A10, n10, c10, e10⟩ := HS5.out.fst.sl.shape
      subst e10
      obtain ⟨A11, n11, c11, e11⟩ := HS5.out.snd.sl.shape
      subst e11
      clear ha hg hm
      have hp5 : ∀ o, w4.drew.cell? ⟨w.heap.size, o, none⟩ = (#[.int .u64 p.P, .int .u64 p.Q, .int .u64 p.G, .int .u64 p.H, .int .i64 p.Nodes, .int .i64 p.N, .int .i64 p.T, .int .i64 p.K, .int .i64 p.D, .int .i64 p.R, .int .i64 p.M, .int .i64 p.X] : Array Value)[o]? := (HPX.out _ HG5.out).prule
      have HI6 : Hid (TI (kb + T) w4.drew) := Lib.hid (HT.out.keep HI5.out (grown_drewN' _ 1) (by simp))
      have HS6 := Lib.hid (HS5.out.kept (grown_drewN' _ 1))
      have HG6 : Hid (w2.grownBy w4.drew (some g)) := Lib.hid (HG5.out.trans ((grown_drewN' _ 1).but _))
      have HN6 := Lib.hid (HNX.out (kb + T) w4.drew (by omega) HI6.out)
      have HVU := Lib.hid (HT.out.val (kb + T))
      have hkm2 : kb + T + 1 + T ≤ most := by omega
      go_upto_region 9 with (fail)
      go_region_held3 (fun w' => ∀ o, w'.cell? ⟨w.heap.size, o, none⟩ = (#[.int .u64 p.P, .int .u64 p.Q, .int .u64 p.G, .int .u64 p.H, .int .i64 p.Nodes, .int .i64 p.N, .int .i64 p.T, .int .i64 p.K, .int .i64 p.D, .int .i64 p.R, .int .i64 p.M, .int .i64 p.X] : Array Value)[o]?) (first | assumption | (refine rule_alloc ?_ ?_ _ <;> assumption) | go_keep)
        (first
        | (go_at_call 77; (with_reducible refine HN6.out.mono ?_); rintro e w5 ⟨rfl, hi5, hg5⟩; have HI7 := Lib.hid hi5; have HG7 : Hid (w2.grownBy w5 (some g)) := Lib.hid (HG6.out.trans hg5); have HS7 := Lib.hid (HS6.out.keep hg5 (fun b hb e => by injection e with e; have := HW2.out; omega)); have hp7 := (HPX.out _ HG7.out).prule; have HB7 := Lib.hid (HBH.out (dr (kb + T)) (kb + T + 1) w5 HVU.out hkm2 HI7.out); have hz7 : w5.heap.size = w5.heap.size := rfl; clear hi5 hg5)
        | (go_at_call 78; (with_reducible refine HB7.out.mono ?_); rintro e w6 ⟨v55, rfl, hs6, hi6, hg6⟩; obtain ⟨A55, n55, c55, rfl⟩ := hs6.shape; have HI8 := Lib.hid hi6; have HG8 : Hid (w2.grownBy w6 (some g)) := Lib.hid (HG7.out.trans hg6); have HS8 := Lib.hid (HS7.out.keep hg6 (fun b hb e => by injection e with e; have := HW2.out; omega)); have hp8 := (HPX.out _ HG8.out).prule; have lp8 : w.heap.size < w6.heap.size := (HPX.out _ HG8.out).lt; have HZ8 : Hid (w2.heap.size ≤ w6.heap.size) := Lib.hid HG8.out.size; have HREP2 : Hid ((encS encU).rep (fun b => (w2.heap.size ≤ b ∧ some b ≠ (Value.slice A10 n10 c10).ownBlock) ∧ some b ≠ (Value.slice A11 n11 c11).ownBlock) w6 [.slice A55 n55 c55] z) := Lib.hid ⟨_, rfl, by rw [HZ.out]; exact hs6.more fun b _ hb => ⟨⟨Nat.le_trans HG7.out.size hb, fun e => by have := (HS7.out.fst.lt b e.symm).2; omega⟩, fun e => by have := (HS7.out.snd.lt b e.symm).2; omega⟩⟩; clear hs6 hi6 hg6)
        | (refine step_push rfl (.tmp 45) (.tmp 56) rfl (E := encS encU) (y := z) el_nums HS8.out.snd rfl rfl HREP2.out HLR.out HZ8.out (HS8.out.new2 (fun _ h => Nat.le_trans HZ8.out h)) ?_; intro v11 w7 ha hg hm; have HS9 := Lib.hid (HS8.out.two ha hg hm); have HG9 : Hid (w2.grownBy w7 (some g)) := Lib.hid (HG8.out.andThen hg (fun j e => .inl (HS8.out.snd.lt j e).1)); have HI9 : Hid (TI (kb + T + 1 + T) w7) := Lib.hid (HT.out.keep HI8.out hg (fun b e hb => by have := (HS8.out.snd.lt b e).1; have := HOB.out b hb; have := HW2.out; omega)); have hp9 := (HPX.out _ HG9.out).prule; clear ha hg hm))
      have HFIN : Hid (Side (encS encU) (encS encU) w2.heap.size 37 37 (fun b => w2.heap.size ≤ b) w7 (.slice A10 n10 c10) v11 (dealFs l p.Q dr T k0 (s + 1)) (dealRs p.Q dr T k0 (s + 1)) ∧ TI (k0 + (s + 1) * (2 * T + 1)) w7 ∧ w2.grownBy w7 (some g)) := Lib.hid ⟨by rw [HFN.out, HRN.out]; exact HS9.out, by rw [HKN.out]; exact HI9.out, HG9.out⟩
      go_wp2_with fail
      go_roundg m
      case measure => omega
      case rel => exact ⟨s + 1, by omega, by go_num, HFIN⟩
end Go.Proofs.YtmjdpmfcbeaecaaDoor

namespace Go.Proofs.YtmjdpmfcbeaecaaDoor
open Go Go.RowKit

set_option maxHeartbeats 1000000 in
theorem mnext_any (p : Par) (l : List Int) (n : Nat) (hnl : n = l.length) (A : Option Addr) (c B6 B3 B2 a : Nat) (W : World) (ha : a ≤ 100000) (h6 : Bk W B6 3 #[.int .i64 a]) (h3 : Bk W B3 56 #[.slice A n c]) (h2 : Bk W B2 24 p.cells) (hne : B2 < B6) (hl : Sl encI TT W (.slice A n c) l) (hn : l.length ≤ 100) (hM : 1 ≤ p.M ∧ p.M ≤ 1048576) :
    Calls Tryd.prog 75 #[.pointer (some ⟨B6, 0, none⟩), .pointer (some ⟨B3, 0, none⟩), .pointer (some ⟨B2, 0, none⟩)] W fun e w' => e = .returned (.int .i64 (drw l p.M a)) ∧ W.grownBy w' (some B6) ∧ Bk w' B6 3 #[.int .i64 ((a + 1 : Nat) : Int)] := by
  subst hnl
  have hc6 := h6.cell 0
  have hc3 := h3.cell 0
  have hf6 := h6.free 0
  have hcM : W.cell? ⟨B2, 10, none⟩ = some (.int .i64 p.M) := h2.cell 10
  simp at hc6 hc3
  have n1 : ¬ B6 = B2 := by omega
  have n2 : ¬ B2 = B6 := by omega
  have HFIN : Hid (∀ k, W.grownBy ((W.drewN k).setCell ⟨B6, 0, none⟩ (.int .i64 ((a : Int) + 1))) (some B6) ∧ Bk ((W.drewN k).setCell ⟨B6, 0, none⟩ (.int .i64 ((a : Int) + 1))) B6 3 #[.int .i64 ((a + 1 : Nat) : Int)]) := Lib.hid (fun k => ⟨((grownBy_drewN (World.grownBy.refl W none) k).but _).trans (grownBy_set (World.grownBy.refl _ (some B6)) 0 _), by
    have := (h6.drewN k).set 0 (.int .i64 ((a : Int) + 1))
    simpa using this⟩)
  obtain ⟨M1, M2⟩ := hM
  have hz1 : (p.M + 1 == 0) = false := by simp; omega
  have hz2 : ¬ p.M + 1 = 0 := by omega
  have eM : IntKind.i64.wrap (p.M + 1) = p.M + 1 := IntWalk.i64_in _ (by omega)
  by_cases h0 : 0 < l.length
  · have hk : a % l.length < l.length := Nat.mod_lt _ h0
    obtain ⟨kq, hkq⟩ : ∃ q, q = a % l.length := ⟨_, rfl⟩
    have hnum : drw l p.M a = Int.tmod l[a % l.length] (p.M + 1) := by rw [drw, if_pos h0, List.getElem?_eq_getElem hk]; rfl
    have hbd := drw_bd l M1 a
    obtain ⟨g, o, c', e, _, _, h1, hu⟩ := hl.atI hk
    have hI : (0 : Int) < (l.length : Int) := by omega
    have hkI : (kq : Int) < (l.length : Int) := by rw [hkq]; omega
    have d1 : Int.tmod (a : Int) (l.length : Int) = (kq : Int) := by rw [Int.tmod_eq_emod_of_nonneg (by omega), hkq]; exact (Int.natCast_emod a l.length).symm
    have d2 : (a : Int) % (l.length : Int) = (kq : Int) := by rw [hkq]; exact (Int.natCast_emod a l.length).symm
    have hnz : ¬ (l.length : Int) = 0 := by omega
    rw [hnum] at hbd ⊢
    generalize hx : l[a % l.length] = x at *
    rw [← hkq] at h1
    have ew : IntKind.i64.wrap (Int.tmod x (p.M + 1)) = Int.tmod x (p.M + 1) := IntWalk.i64_in _ (by omega)
    obtain ⟨u0, u1⟩ := hu
    injection e with e1 e2 e3
    subst e1 e3
    clear hl h6 h3 h2 hk hnum hkq hx e2 h0 hbd
    generalize l.length = n at *
    go_enter Tryd.func75, Tryd.ntmps75
    go_wp2_with fail
    go_quiet (fail)
    go_wp2
    go_ret
    exact ⟨rfl, HFIN.out _⟩
  · have hnum : drw l p.M a = (a : Int) % 3 % (p.M + 1) := by rw [drw, if_neg h0, Int.tmod_eq_emod_of_nonneg (show (0 : Int) ≤ (a : Int) by omega), Int.tmod_eq_emod_of_nonneg (by omega)]
    have hbd := drw_bd l M1 a
    have hI : ¬ (l.length : Int) > 0 := by omega
    rw [hnum] at hbd ⊢
    have ew : IntKind.i64.wrap ((a : Int) % 3 % (p.M + 1)) = (a : Int) % 3 % (p.M + 1) := IntWalk.i64_in _ (by omega)
    clear hl h6 h3 h2 hnum h0 hbd
    generalize l.length = n at *
    go_enter Tryd.func75, Tryd.ntmps75
    go_wp2
    go_ret
    exact ⟨rfl, HFIN.out 0⟩
/-- What stands while the model is made. -/
structure WM (p : Par) (vl : Value) (B : Nat) (w : World) (a : Nat) (vW vB : Value) (W : World) : Prop where
  par : Bk W B 24 p.cells
  lst : Bk W (B + 1) 56 #[vl]
  res : Bk W (B + 2) 59 #[.slice none 0 0, .slice none 0 0]
  m : Bk W (B + 3) 59 #[vW, vB]
  cnt : Bk W (B + 4) 3 #[.int .i64 a]
  gr : w.grownBy W none
section
variable {p : Par} {vl : Value} {B : Nat} {w : World} {a : Nat} {vW vB : Value} {X Y : World}
theorem WM.own (h : WM p vl B w a vW vB X) {row : Option Nat} (hg : X.grownBy Y row) (hr : ∀ r, row = some r → B + 5 ≤ r) (hB : B = w.heap.size := by rfl) : WM p vl B w a vW vB Y := by
  have hn : ∀ k, k < B + 5 → some k ≠ row := fun k hk e => by have := hr k e.symm; omega
  exact ⟨h.par.grown hg (hn _ (by omega)), h.lst.grown hg (hn _ (by omega)), h.res.grown hg (hn _ (by omega)), h.m.grown hg (hn _ (by omega)), h.cnt.grown hg (hn _ (by omega)), grown_up h.gr hg (fun r e => by have := hr r e; omega)⟩
theorem WM.tick (h : WM p vl B w a vW vB X) {a' : Nat} (hg : X.grownBy Y (some (B + 4))) (hb : Bk Y (B + 4) 3 #[.int .i64 a']) (hB : B = w.heap.size := by rfl) : WM p vl B w a' vW vB Y := by
  have hn : ∀ k, k < B + 4 → some k ≠ some (B + 4) := fun k hk e => by injection e with e; omega
  exact ⟨h.par.grown hg (hn _ (by omega)), h.lst.grown hg (hn _ (by omega)), h.res.grown hg (hn _ (by omega)), h.m.grown hg (hn _ (by omega)), hb, grown_up h.gr hg (fun r e => by injection e with e; omega)⟩
theorem WM.set0 (h : WM p vl B w a vW vB X) (u : Value) (hB : B = w.heap.size := by rfl) : WM p vl B w a u vB (X.setCell ⟨B + 3, 0, none⟩ u) :=
  ⟨h.par.far (by simp) _, h.lst.far (by simp) _, h.res.far (by simp) _, (h.m.set 0 u).of_eq rfl, h.cnt.far (by simp) _, grownSetUp h.gr 0 u (by omega)⟩
theorem WM.set1 (h : WM p vl B w a vW vB X) (u : Value) (hB : B = w.heap.size := by rfl) : WM p vl B w a vW u (X.setCell ⟨B + 3, 1, none⟩ u) :=
  ⟨h.par.far (by simp) _, h.lst.far (by simp) _, h.res.far (by simp) _, (h.m.set 1 u).of_eq rfl, h.cnt.far (by simp) _, grownSetUp h.gr 1 u (by omega)⟩
end
abbrev SideI (base : Nat) (w : World) (v u : Value) (xs : List (List Int)) (ys : List Int) : Prop := Side (encS encI) encI base 56 2 (fun g => base ≤ g) w v u xs ys
/-- Where the worlds stand while a number is put to the model. -/
def modLt (p : Par) (vl : Value) (w : World) (N a : Nat) (vW vB : Value) (xs : List (List Int)) (ys : List Int) (z : Int) : Lt where
  C vs X := N ≤ X.heap.size ∧ match vs with
    | [] => WM p vl w.heap.size w a vW vB X ∧ SideI (w.heap.size + 5) X vW vB xs ys
    | [u] => u = .int .i64 z ∧ WM p vl w.heap.size w (a + 1) vW vB X ∧ SideI (w.heap.size + 5) X vW vB xs ys
    | [u, v] => u = .int .i64 z ∧ WM p vl w.heap.size w (a + 1) vW vB X ∧ SideI (w.heap.size + 5) X vW v xs (ys ++ [z])
    | _ => False
  R q X Y := match q with
    | 0 => X.grownBy Y (some (w.heap.size + 4))
    | _ => True
  g := fun {vs X Y} ⟨h1, h2⟩ hg => ⟨Nat.le_trans h1 hg.size, by
    match vs, h2 with
    | [], h2 => exact ⟨h2.1.own hg (by simp), h2.2.kept hg⟩
    | [_], h2 => exact ⟨h2.1, h2.2.1.own hg (by simp), h2.2.2.kept hg⟩
    | [_, _], h2 => exact ⟨h2.1, h2.2.1.own hg (by simp), h2.2.2.kept hg⟩⟩
theorem modLt_at {p : Par} {vl : Value} {w : World} {N a : Nat} {vW vB : Value} {xs : List (List Int)} {ys : List Int} {z : Int} {vs : List Value} {X : World} {x : Value} (hC : (modLt p vl w N a vW vB xs ys z).C vs X) (h : vs[0]? = some x) : x = .int .i64 z := by
  obtain ⟨_, h2⟩ := hC
  match vs, h, h2 with
  | [u], h, h2 => obtain ⟨e, _⟩ := h2; subst e; injection h with h; exact h.symm
  | [u, _], h, h2 => obtain ⟨e, _⟩ := h2; subst e; injection h with h; exact h.symm
def modZ {p : Par} {vl : Value} {w : World} {N0 a : Nat} {vW vB : Value} {xs : List (List Int)} {ys : List Int} {z0 : Int} (N : Nat) (z : Int) (hO : w.heap.size + 4 < N) : Qv (modLt p vl w N0 a vW vB xs ys z0) where
  p vs v X := vs.length ≤ 1 → BlkQ N 2 (.int .i64 z) v X
  fr := 0
  st := fun h hg e => by
    obtain ⟨b, e1, hb, hk⟩ := h e
    exact ⟨b, e1, hb, hk.grown hg (by simp)⟩
  sr := fun {vs u v X Y} _ _ hR h e => by
    have h0 : vs = [] := by simpa using e
    subst h0
    obtain ⟨b, e1, hb, hk⟩ := h (by simp)
    have hR : X.grownBy Y (some (w.heap.size + 4)) := hR
    exact ⟨b, e1, hb, hk.grown hR (fun e => by injection e with e; omega)⟩
theorem results_mod {fn : Func} {W : World} {B4 : Nat} {vW vB : Value} (h : fn.results = #[.cell 4 59]) (tmps : Array Value) (h4 : tmps.getD 4 undef = .pointer (some ⟨B4, 0, none⟩)) (hb4 : Bk W B4 59 #[vW, vB]) : (results fn tmps).run Tryd.prog W = .ok (.agg #[vW, vB]) W := by
  have r1 := run_loadVar_row (P := Tryd.prog) W B4 59 59 #[vW, vB] (0, 0) _ hb4 Tryd.underlying59 rfl (by kernel_rfl)
  have h4' : tmps[4]?.getD undef = .pointer (some ⟨B4, 0, none⟩) := by simpa using h4
  simp [results, h, h4', asAddr, r1]
theorem wrow_snoc {α : Type} (f : Nat → α) (n : Nat) : (List.range (n + 1)).map f = (List.range n).map f ++ [f n] := by simp [List.range_succ]
def wRow (l : List Int) (M : Int) (d k : Nat) : List Int := (List.range d).map fun i => drw l M (k * (d + 1) + i)
def wRows (l : List Int) (M : Int) (d k : Nat) : List (List Int) := (List.range k).map (wRow l M d)
def wLast (l : List Int) (M : Int) (d k : Nat) : List Int := (List.range k).map fun k => drw l M (k * (d + 1) + d)
theorem wRows_who (p : Par) (l : List Int) : wRows l p.M p.D.toNat p.K.toNat = whoW p l := rfl
theorem wLast_who (p : Par) (l : List Int) : wLast l p.M p.D.toNat p.K.toNat = whoB p l := rfl
set_option maxRecDepth 100000 in
set_option maxHeartbeats 4000000 in
theorem model20_any (p : Par) (v : Value) (l : List Int) (X : Nat → Prop) (w : World) (hm : mayP p = true) (h : Sl encI X w v l) (hn : l.length ≤ 100) :
    Calls Tryd.prog 22 #[p.v, v] w fun e w' => ∃ vW vB, e = .returned (.agg #[vW, vB]) ∧ Sl (encS encI) TT w' vW (whoW p l) ∧ Sl encI TT w' vB (whoB p l) ∧ w.grownBy w' none := by
  obtain ⟨k1, k2, d1, d2, M1, M2, _, _, _, _⟩ := may_sizes hm
  obtain ⟨K, hK⟩ : ∃ k : Nat, (k : Int) = p.K := ⟨p.K.toNat, by omega⟩
  obtain ⟨D, hD⟩ : ∃ k : Nat, (k : Int) = p.D := ⟨p.D.toNat, by omega⟩
  have HRES : Hid (wRows l p.M D K = whoW p l ∧ wLast l p.M D K = whoB p l) := Lib.hid (by
    rw [show D = p.D.toNat by omega, show K = p.K.toNat by omega]
    exact ⟨rfl, rfl⟩)
  have HSZ : Hid (K ≤ 2 ∧ D ≤ 4) := Lib.hid (by omega)
  have HMM : Hid (1 ≤ p.M ∧ p.M ≤ 1048576) := Lib.hid ⟨M1, M2⟩
  have HKD : Hid ((K : Int) = p.K ∧ (D : Int) = p.D) := Lib.hid ⟨hK, hD⟩
  obtain ⟨A, c, rfl, hl1, hl2⟩ := h.form
  obtain ⟨n, hnl⟩ : ∃ n, n = l.length := ⟨_, rfl⟩
  have HNL := Lib.hid hnl
  have HN := Lib.hid hn
  rw [← hnl] at hl1 h ⊢
  have HL := Lib.hid h
  clear h hm k1 k2 d1 d2 M1 M2 hK hD hn hnl
  go_enter Tryd.func22, Tryd.ntmps22
  go_upto_region 4 with (fail)
  obtain ⟨w9, hw9⟩ : ∃ y, y = ((((w.alloc (Obj.cells p.cells 24)).alloc (Obj.cells #[.slice A n c] 56)).alloc (Obj.cells #[.slice none 0 0, .slice none 0 0] 59)).alloc (Obj.cells #[.slice none 0 0, .slice none 0 0] 59)).alloc (Obj.cells #[.int .i64 0] 3) := ⟨_, rfl⟩
  rw [← hw9]
  have HW0 : Hid (WM p (.slice A n c) w.heap.size w 0 (.slice none 0 0) (.slice none 0 0) w9) := Lib.hid (by
    rw [hw9]
    have g1 := World.grownBy_alloc w (Obj.cells p.cells 24) none
    have b0 := Bk.new w 24 p.cells
    have b1 := Bk.new (w.alloc (Obj.cells p.cells 24)) 56 #[.slice A n c]
    have b2 := Bk.new ((w.alloc (Obj.cells p.cells 24)).alloc (Obj.cells #[.slice A n c] 56)) 59 #[.slice none 0 0, .slice none 0 0]
    have b3 := Bk.new (((w.alloc (Obj.cells p.cells 24)).alloc (Obj.cells #[.slice A n c] 56)).alloc (Obj.cells #[.slice none 0 0, .slice none 0 0] 59)) 59 #[.slice none 0 0, .slice none 0 0]
    have b4 := Bk.new ((((w.alloc (Obj.cells p.cells 24)).alloc (Obj.cells #[.slice A n c] 56)).alloc (Obj.cells #[.slice none 0 0, .slice none 0 0] 59)).alloc (Obj.cells #[.slice none 0 0, .slice none 0 0] 59)) 3 #[.int .i64 0]
    simp only [World.size_alloc] at b1 b2 b3 b4
    exact ⟨(((b0.alloc _).alloc _).alloc _).alloc _, ((b1.alloc _).alloc _).alloc _, (b2.alloc _).alloc _, b3.alloc _, b4, (((g1.trans (World.grownBy_alloc _ _ none)).trans (World.grownBy_alloc _ _ none)).trans (World.grownBy_alloc _ _ none)).trans (World.grownBy_alloc _ _ none)⟩)
  clear hw9
  have HFN : Hid (∀ (Xw : World) (a : Nat) (vW vB : Value), a ≤ 100000 → WM p (.slice A n c) w.heap.size w a vW vB Xw → Calls Tryd.prog 75 #[.pointer (some ⟨w.heap.size + 4, 0, none⟩), .pointer (some ⟨w.heap.size + 1, 0, none⟩), .pointer (some ⟨w.heap.size, 0, none⟩)] Xw fun e w' => e = .returned (.int .i64 (drw l p.M a)) ∧ Xw.grownBy w' (some (w.heap.size + 4)) ∧ Bk w' (w.heap.size + 4) 3 #[.int .i64 ((a + 1 : Nat) : Int)]) := Lib.hid (fun Xw a vW vB ha hW => mnext_any p l n HNL.out A c (w.heap.size + 4) (w.heap.size + 1) w.heap.size a Xw ha hW.cnt hW.lst hW.par (by omega) ((HL.out.kept hW.gr).more fun _ _ _ => trivial) HN.out HMM.out)
  have HZI : Hid (∀ a : Nat, I64 (drw l p.M a)) := Lib.hid (fun a => by have := drw_bd l HMM.out.1 a; have := HMM.out.2; exact ⟨by omega, by omega⟩)
  have hK2 : K ≤ 2 := HSZ.out.1
  have hD4 : D ≤ 4 := HSZ.out.2
  go_wp2_with fail
  go_loopg [8] K (fun g s8 wx => ∃ k : Nat, k + g = K ∧ s8 = .int .i64 k ∧ Hid (∃ vW vB, WM p (.slice A n c) w.heap.size w (k * (D + 1)) vW vB wx ∧ SideI (w.heap.size + 5) wx vW vB (wRows l p.M D k) (wLast l p.M D k)))
  case atStart => exact ⟨0, by omega, rfl, Lib.hid ⟨_, _, by simpa using HW0.out, ⟨Acc.nil _ _ _ _ _, Acc.nil _ _ _ _ _⟩⟩⟩
  case round =>
    obtain ⟨k, hk, rfl, HX⟩ := hrel
    obtain ⟨vW, vB, h1, h2⟩ := HX.out
    clear HX
    have hp0 := h1.par.prule
    cases gk with
    | zero =>
      obtain rfl : k = K := by omega
      have hno : ¬ ((k : Int) < p.K) := by have := HKD.out.1; omega
      obtain ⟨AW, nW, cW, rfl⟩ := h2.fst.sl.shape
      obtain ⟨AB, nB, cB, rfl⟩ := h2.snd.sl.shape
      have c50 := h1.m.cell 0
      have c51 := h1.m.cell 1
      have c40 := h1.res.cell 0
      have c41 := h1.res.cell 1
      have f4 := h1.res.free
      simp at c50 c51 c40 c41
      have HR4 : Hid (Bk ((wr.setCell ⟨w.heap.size + 2, 0, none⟩ (.slice AW nW cW)).setCell ⟨w.heap.size + 2, 1, none⟩ (.slice AB nB cB)) (w.heap.size + 2) 59 #[.slice AW nW cW, .slice AB nB cB]) := Lib.hid ((h1.res.set 0 _).set 1 _)
      have HGR : Hid (w.grownBy ((wr.setCell ⟨w.heap.size + 2, 0, none⟩ (.slice AW nW cW)).setCell ⟨w.heap.size + 2, 1, none⟩ (.slice AB nB cB)) none) := Lib.hid (grownSetUp (grownSetUp h1.gr 0 _ (by omega)) 1 _ (by omega))
      have HSR : Hid (SideI (w.heap.size + 5) ((wr.setCell ⟨w.heap.size + 2, 0, none⟩ (.slice AW nW cW)).setCell ⟨w.heap.size + 2, 1, none⟩ (.slice AB nB cB)) (.slice AW nW cW) (.slice AB nB cB) (whoW p l) (whoB p l)) := Lib.hid (by
        rw [← HRES.out.1, ← HRES.out.2]
        exact (h2.keep (grownSet wr (w.heap.size + 2) 0 _) (fun g hg e => by injection e with e; omega)).keep (grownSet _ (w.heap.size + 2) 1 _) (fun g hg e => by injection e with e; omega))
      clear h1 h2
      go_wp2_with fail
      exact ⟨rfl, _, results_mod rfl _ rfl HR4.out, _, _, rfl, HSR.out.fst.sl.more fun _ _ _ => trivial, HSR.out.snd.sl.more fun _ _ _ => trivial, HGR.out⟩
    | succ m =>
      have hin : (k : Int) < p.K := by have := HKD.out.1; omega
      obtain ⟨kn, hkn⟩ : ∃ q, q = k * (D + 1) := ⟨_, rfl⟩
      have hknb : kn ≤ 10 := by rw [hkn]; exact Nat.le_trans (Nat.mul_le_mul (show k ≤ 2 by omega) (show D + 1 ≤ 5 by omega)) (Nat.le_refl _)
      have HKN := Lib.hid hkn
      rw [← hkn] at h1
      obtain ⟨wo, hwo⟩ : ∃ y, y = wr := ⟨_, rfl⟩
      subst hwo
      have HWX : Hid (∀ (wx : World) (a : Nat), wo.grownBy wx (some (w.heap.size + 4)) → Bk wx (w.heap.size + 4) 3 #[.int .i64 a] → WM p (.slice A n c) w.heap.size w a vW vB wx) := Lib.hid (fun wx a hg hb => h1.tick hg hb)
      have HSX : Hid (∀ wx, wo.grownBy wx (some (w.heap.size + 4)) → SideI (w.heap.size + 5) wx vW vB (wRows l p.M D k) (wLast l p.M D k)) := Lib.hid (fun wx hg => h2.keep hg (fun g hg e => by injection e with e; omega))
      have HOWN : Hid ((∀ r, vW.ownBlock = some r → w.heap.size + 5 ≤ r ∧ r < wo.heap.size) ∧ (∀ r, vB.ownBlock = some r → w.heap.size + 5 ≤ r ∧ r < wo.heap.size)) := Lib.hid ⟨h2.fst.lt, h2.snd.lt⟩
      have HWB : Hid (w.heap.size + 5 ≤ wo.heap.size) := Lib.hid (by have := h1.cnt.lt; omega)
      have HCN := Lib.hid h1.cnt
      clear h1 h2 hkn
      go_wp2_with fail
      go_loopg [9, 10] D (fun g s9 s10 wx => ∃ d : Nat, d + g = D ∧ s10 = .int .i64 d ∧ Hid (Acc encI wo.heap.size 2 (fun g => wo.heap.size ≤ g) wx s9 ((List.range d).map fun i => drw l p.M (kn + i)) ∧ wo.grownBy wx (some (w.heap.size + 4)) ∧ Bk wx (w.heap.size + 4) 3 #[.int .i64 ((kn + d : Nat) : Int)]))
      case atStart => exact ⟨0, by omega, rfl, Lib.hid ⟨Acc.nil _ _ _ _ _, World.grownBy.refl _ _, HCN.out⟩⟩
      case round =>
        obtain ⟨d, hd, rfl, HY⟩ := hrel
        have HA := Lib.hid HY.out.1
        have HG := Lib.hid HY.out.2.1
        have HM := Lib.hid (HWX.out wr _ HY.out.2.1 HY.out.2.2)
        clear HY hp0
        have hp1 := HM.out.par.prule
        have HSW : Hid (wo.heap.size ≤ wr.heap.size) := Lib.hid HG.out.size
        cases gk with
        | zero =>
          obtain rfl : d = D := by omega
          have hno : ¬ ((d : Int) < p.D) := by have := HKD.out.2; omega
          have HS := Lib.hid (HSX.out wr HG.out)
          obtain ⟨Ar, nr, cr, er⟩ := HA.out.sl.shape
          subst er
          obtain ⟨row, hrow⟩ : ∃ y, y = (List.range d).map fun i => drw l p.M (kn + i) := ⟨_, rfl⟩
          rw [← hrow] at HA
          have HRW := Lib.hid hrow
          clear hrow
          have HREP : Hid ((encS encI).rep (fun g => (w.heap.size + 5 ≤ g ∧ some g ≠ vB.ownBlock) ∧ some g ≠ vW.ownBlock) wr [.slice Ar nr cr] row) := Lib.hid ⟨_, rfl, HA.out.sl.more fun g _ hg => ⟨⟨by have := HWB.out; omega, fun e => by have := (HOWN.out.2 g e.symm).2; omega⟩, fun e => by have := (HOWN.out.1 g e.symm).2; omega⟩⟩
          have HLBW : Hid (((wRows l p.M d k).length + 1) * 24 ≤ 140737488355328) := Lib.hid (by simp [wRows]; omega)
          have HLB : Hid (((wLast l p.M d k).length + 1) * 8 ≤ 140737488355328) := Lib.hid (by simp [wLast]; omega)
          have HSZW : Hid (w.heap.size + 5 ≤ wr.heap.size) := Lib.hid (Nat.le_trans HWB.out HSW.out)
          obtain ⟨AW, nW, cW, eW⟩ := HS.out.fst.sl.shape
          obtain ⟨AB, nB, cB, eB⟩ := HS.out.snd.sl.shape
          subst eW eB
          have c50 := HM.out.m.cell 0
          simp at c50
          have hmf := HM.out.m.free
          go_wp2_with (at_builtin; refine wpList_push rfl (.tmp 30) (.tmp 32) rfl (E := encS encI) (y := row) el_i64s HS.out.fst rfl rfl HREP.out HLBW.out HSZW.out (HS.out.new1 (fun _ h => Nat.le_trans HSZW.out h)) ?_)
          intro vW2 w5 ha hg hm
          have HM5 := Lib.hid (HM.out.own hg (fun r e => (HS.out.fst.lt r e).1))
          have HS5 := Lib.hid (HS.out.one ha hg hm)
          obtain ⟨AW2, nW2, cW2, eW2⟩ := HS5.out.fst.sl.shape
          subst eW2
          clear ha hg hm c50 hp1 hmf
          have c50 := HM5.out.m.cell 0
          have f5 := HM5.out.m.free
          simp at c50
          go_upto_region 13 with (fail)
          obtain ⟨w6, hw6⟩ : ∃ y, y = w5.setCell ⟨w.heap.size + 3, 0, none⟩ (.slice AW2 nW2 cW2) := ⟨_, rfl⟩
          rw [← hw6]
          have HM6 : Hid (WM p (.slice A n c) w.heap.size w (kn + d) (.slice AW2 nW2 cW2) (.slice AB nB cB) w6) := Lib.hid (by rw [hw6]; exact HM5.out.set0 _)
          have HS6 : Hid (SideI (w.heap.size + 5) w6 (.slice AW2 nW2 cW2) (.slice AB nB cB) (wRows l p.M d k ++ [row]) (wLast l p.M d k)) := Lib.hid (by rw [hw6]; exact HS5.out.keep (grownSet w5 (w.heap.size + 3) 0 _) (fun g hg e => by injection e with e; omega))
          clear hw6 c50 f5 HM5 HS5 HS HM HA HREP
          obtain ⟨z, hz⟩ : ∃ y, y = drw l p.M (kn + d) := ⟨_, rfl⟩
          have HZZ := Lib.hid hz
          have HZ : Hid (I64 z) := Lib.hid (by rw [hz]; exact HZI.out _)
          obtain ⟨N, hN⟩ : ∃ y, y = w6.heap.size := ⟨_, rfl⟩
          obtain ⟨a, ha⟩ : ∃ y, y = kn + d := ⟨_, rfl⟩
          have HAA := Lib.hid ha
          rw [← ha] at HM6 hz
          have HNX : Hid (∀ Xw, WM p (.slice A n c) w.heap.size w a (.slice AW2 nW2 cW2) (.slice AB nB cB) Xw → Calls Tryd.prog 75 #[.pointer (some ⟨w.heap.size + 4, 0, none⟩), .pointer (some ⟨w.heap.size + 1, 0, none⟩), .pointer (some ⟨w.heap.size, 0, none⟩)] Xw fun e w' => e = .returned (.int .i64 z) ∧ Xw.grownBy w' (some (w.heap.size + 4)) ∧ Bk w' (w.heap.size + 4) 3 #[.int .i64 ((a + 1 : Nat) : Int)]) := Lib.hid (fun Xw hW => by rw [hz]; exact HFN.out Xw a _ _ (by omega) hW)
          have HC0 : Hid ((modLt p (.slice A n c) w N a (.slice AW2 nW2 cW2) (.slice AB nB cB) (wRows l p.M d k ++ [row]) (wLast l p.M d k) z).C [] w6.drew) := Lib.hid ⟨by rw [hN]; exact Nat.le_refl _, HM6.out.own (grown_drewN' _ 1) (by simp), HS6.out.kept (grown_drewN' _ 1)⟩
          have HLD : Hid (∀ vs Xw, (modLt p (.slice A n c) w N a (.slice AW2 nW2 cW2) (.slice AB nB cB) (wRows l p.M d k ++ [row]) (wLast l p.M d k) z).C vs Xw → Xw.cell? ⟨w.heap.size + 3, 1, none⟩ = some (.slice AB nB cB)) := Lib.hid (fun vs Xw hC => by
            obtain ⟨_, hC⟩ := hC
            match vs, hC with
            | [], hC => simpa using hC.1.m.cell 1
            | [_], hC => simpa using hC.2.1.m.cell 1
            | [_, _], hC => simpa using hC.2.1.m.cell 1)
          have hON : Hid (w.heap.size + 4 < N) := Lib.hid (by have := HM6.out.cnt.lt; omega)
          have HNB : Hid (w.heap.size + 5 ≤ N) := Lib.hid (by have := HM6.out.cnt.lt; omega)
          clear hz hN ha HM6 HS6
          refine wp_region_late (modLt p (.slice A n c) w N a (.slice AW2 nW2 cW2) (.slice AB nB cB) (wRows l p.M d k ++ [row]) (wLast l p.M d k) z) [3, 5] 7 (by kernel_rfl) (by kernel_rfl) (by kernel_rfl) HC0.out ?_
          -- op 0 (slot 35): fieldAddr
          refine LateR.mono (Qv.eq (.pointer (some ⟨w.heap.size + 3, 1, none⟩))) [] (by kernel_rfl) (by rfl) rfl (fun vs w' hC => ?_) ?_
          · refine askl_do rfl fun K hK => ?_
            go_simp
            exact hK _ _ rfl ⟨rfl, World.grownBy.refl _ none⟩
          -- op 1 (slot 36): load
          refine LateR.mono (Qv.eq (.slice AB nB cB)) [(0, 35)] (by kernel_rfl) (by rfl) rfl (fun vs w' hC => ?_) ?_
          · rintro _ rfl
            refine askl_do rfl fun K hK => ?_
            have q0 := HLD.out vs w' hC
            go_simp
            exact hK _ _ rfl ⟨rfl, World.grownBy.refl _ none⟩
          -- op 2 (slot 37): move
          refine LateR.mono (Qv.eq (.func (.func 75) #[] #[.pointer (some ⟨w.heap.size + 4, 0, none⟩), .pointer (some ⟨w.heap.size + 1, 0, none⟩), .pointer (some ⟨w.heap.size, 0, none⟩)])) [] (by kernel_rfl) (by rfl) rfl (fun vs w' hC => ?_) ?_
          · refine askl_do rfl fun K hK => ?_
            go_simp
            exact hK _ _ rfl ⟨rfl, World.grownBy.refl _ none⟩
          -- op 3 (slot 38): call
          refine LateR.turn 0 [(2, 37)] (by kernel_rfl) rfl (fun vs w' hl hC => ?_) ?_
          · rintro _ rfl
            refine askl_do rfl fun K hK => ?_
            obtain rfl : vs = [] := List.eq_nil_of_length_eq_zero hl
            obtain ⟨g1, g2, g3⟩ := hC
            go_simp
            refine (HNX.out w' g2).mono ?_
            rintro e w3 ⟨rfl, hg3, hb3⟩
            exact hK _ _ rfl ⟨hg3, Nat.le_trans g1 hg3.size, rfl, g2.tick hg3 hb3, g3.keep hg3 (fun g hg e => by injection e with e; omega)⟩
          -- op 4 (slot 39): buildSlice
          refine LateR.mono (modZ N z hON.out) [(3, 38)] (by kernel_rfl) (by rfl) rfl (fun vs w' hC => ?_) ?_
          · intro x38 h38
            refine askl_do rfl fun K hK => ?_
            have hsz := hC.1
            obtain rfl := modLt_at hC h38
            go_simp
            exact hK _ _ rfl ⟨fun _ => ⟨_, rfl, hsz, Bk.new w' _ _⟩, World.grownBy_alloc w' _ none⟩
          -- op 5 (slot 40): call
          refine LateR.turn 1 [(1, 36), (4, 39)] (by kernel_rfl) rfl (fun vs w' hl hC => ?_) ?_
          · rintro _ rfl
            intro x39 h39
            have h39 : vs.length ≤ 1 → BlkQ N 2 (.int .i64 z) x39 w' := h39
            refine askl_do rfl fun K hK => ?_
            obtain ⟨u, rfl⟩ : ∃ u, vs = [u] := List.length_eq_one_iff.1 hl
            obtain ⟨g1, rfl, g2, g3⟩ := hC
            obtain ⟨b39, e39, hb39, hk39⟩ := h39 (Nat.le_refl 1)
            subst e39
            refine pushAt_core (E := encI) el_i64 g3.snd ⟨rfl, HZ.out⟩ (Bk.one hk39) HLB.out (Nat.le_trans HNB.out g1) (g3.new2 (fun g hg => Nat.le_trans (Nat.le_trans HNB.out g1) hg)) (.tmp 36) (.tmp 39) rfl rfl rfl ?_
            intro v3 w3 ha hgr hm
            exact hK _ _ rfl ⟨trivial, Nat.le_trans g1 hgr.size, rfl, g2.own hgr (fun r e => (g3.snd.lt r e).1), g3.two ha hgr hm⟩
          -- op 6 (slot 41): fieldAddr
          refine LateR.mono (Qv.eq (.pointer (some ⟨w.heap.size + 3, 1, none⟩))) [] (by kernel_rfl) (by rfl) rfl (fun vs w' hC => ?_) ?_
          · refine askl_do rfl fun K hK => ?_
            go_simp
            exact hK _ _ rfl ⟨rfl, World.grownBy.refl _ none⟩
          intro vs w7 hvl hC7
          obtain ⟨u, u2, rfl⟩ : ∃ u u2, vs = [u, u2] := by
            match vs, hvl with
            | [u, u2], _ => exact ⟨u, u2, rfl⟩
          intro y0 k0 y1 k1 y2 k2 y3 k3 y4 k4 y5 k5 y6 k6
          show wpList Tryd.prog _ _ _ _ w7
          simp only [Act.put, List.setIfInBounds_toArray, List.set_cons_zero, List.set_cons_succ]
          have e5 : y5 = u2 := by have : some u2 = some y5 := k5; injection this with this; exact this.symm
          have e6 : y6 = .pointer (some ⟨w.heap.size + 3, 1, none⟩) := k6
          subst e5 e6
          obtain ⟨_, _, hM7, hS7⟩ := hC7
          obtain ⟨AB2, nB2, cB2, eB2⟩ := hS7.snd.sl.shape
          subst eB2
          have c51 := hM7.m.cell 1
          have f5 := hM7.m.free
          simp at c51
          have HFIN : Hid (∃ vW vB, WM p (.slice A n c) w.heap.size w ((k + 1) * (d + 1)) vW vB (w7.setCell ⟨w.heap.size + 3, 1, none⟩ (.slice AB2 nB2 cB2)) ∧ SideI (w.heap.size + 5) (w7.setCell ⟨w.heap.size + 3, 1, none⟩ (.slice AB2 nB2 cB2)) vW vB (wRows l p.M d (k + 1)) (wLast l p.M d (k + 1))) := Lib.hid ⟨_, _, by
            rw [show (k + 1) * (d + 1) = a + 1 by rw [HAA.out, HKN.out, Nat.add_mul, Nat.one_mul]; omega]
            exact hM7.set1 _, by
            have e1 : wRows l p.M d (k + 1) = wRows l p.M d k ++ [row] := by rw [HRW.out, HKN.out]; exact wrow_snoc _ _
            have e2 : wLast l p.M d (k + 1) = wLast l p.M d k ++ [z] := by rw [HZZ.out, HKN.out]; exact wrow_snoc _ _
            rw [e1, e2]
            exact hS7.keep (grownSet w7 (w.heap.size + 3) 1 _) (fun g hg e => by injection e with e; omega)⟩
          clear hM7 hS7 k0 k1 k2 k3 k4 k5 k6 HLD HC0 HNX
          go_wp2_with fail
          go_roundg m
          case measure => omega
          case rel => exact ⟨k + 1, by omega, by go_num, HFIN⟩
        | succ m2 =>
          have hin2 : (d : Int) < p.D := by have := HKD.out.2; omega
          have HC := Lib.hid (HFN.out wr (kn + d) vW vB (by omega) HM.out)
          have HZ := Lib.hid (HZI.out (kn + d))
          obtain ⟨z, hz⟩ : ∃ y, y = drw l p.M (kn + d) := ⟨_, rfl⟩
          have HSN : Hid (((List.range (d + 1)).map fun i => drw l p.M (kn + i)) = ((List.range d).map fun i => drw l p.M (kn + i)) ++ [z]) := Lib.hid (by rw [hz]; exact wrow_snoc _ _)
          rw [← hz] at HC HZ
          have HLB : Hid ((((List.range d).map fun i => drw l p.M (kn + i)).length + 1) * 8 ≤ 140737488355328) := Lib.hid (by simp; omega)
          clear hz
          go_wp2_with fail
          refine HC.out.mono ?_
          rintro e w5 ⟨rfl, hg, hb⟩
          have HA5 := Lib.hid (HA.out.keep hg (fun g hg e => by injection e with e; have := HWB.out; omega))
          have HG5 : Hid (wo.grownBy w5 (some (w.heap.size + 4))) := Lib.hid (HG.out.trans hg)
          have HB5 := Lib.hid hb
          have HSZ5 : Hid (wo.heap.size ≤ w5.heap.size) := Lib.hid HG5.out.size
          clear hg hb hp1
          go_wp2_with (at_builtin; refine wpList_push rfl (.tmp 24) (.tmp 27) rfl (E := encI) (y := z) el_i64 HA5.out rfl rfl ⟨rfl, HZ.out⟩ HLB.out HSZ5.out (fun _ h => Nat.le_trans HSZ5.out h) ?_)
          intro v9 w6 ha hg hm
          have HFIN : Hid (Acc encI wo.heap.size 2 (fun g => wo.heap.size ≤ g) w6 v9 ((List.range (d + 1)).map fun i => drw l p.M (kn + i)) ∧ wo.grownBy w6 (some (w.heap.size + 4)) ∧ Bk w6 (w.heap.size + 4) 3 #[.int .i64 ((kn + (d + 1) : Nat) : Int)]) := Lib.hid ⟨by rw [HSN.out]; exact ha, HG5.out.andThen hg (fun j e => .inl (HA5.out.lt j e).1), HB5.out.grown hg (fun e => by have := (HA5.out.lt _ e.symm).1; have := HWB.out; omega)⟩
          clear ha hg hm
          go_wp2_with fail
          go_roundg m2
          case measure => omega
          case rel => exact ⟨d + 1, by omega, by go_num, HFIN⟩
end Go.Proofs.YtmjdpmfcbeaecaaDoor

namespace Go.Proofs.YtmjdpmfcbeaecaaDoor
open Go Go.RowKit

set_option maxHeartbeats 400000 in
theorem fnum_any (n q : Int) (w : World) (hn : I64 n) (_hq : U64 q) (hm : mayB q = true) :
    Calls Tryd.prog 82 #[.int .i64 n, .int .u64 q] w fun e w' => e = .returned (.int .u64 (n % q)) ∧ w.grownBy w' none := by
  obtain ⟨n0, n1⟩ := hn
  by_cases h : n < 0
  · have e1 : IntKind.u64.wrap n = n + 18446744073709551616 := by rw [IntKind.wrap_u64]; omega
    have e2 : n % 18446744073709551616 = n + 18446744073709551616 := by omega
    have e3 : IntKind.u64.wrap (-(n + 18446744073709551616)) = -n := by rw [IntKind.wrap_u64]; omega
    have e4 : (-(n + 18446744073709551616)) % 18446744073709551616 = -n := by omega
    have HC := Lib.hid (sub_gr 0 (-n) q w ⟨by decide, by decide⟩ ⟨by omega, by omega⟩)
    have HV : Hid (subI 0 (-n) q = n % q) := Lib.hid (by rw [subI_yes _ _ _ hm]; congr 1; omega)
    rw [HV.out] at HC
    clear hm n0 n1
    go_enter Tryd.func82, Tryd.ntmps82
    go_wp2_with fail
    refine HC.out.mono ?_
    rintro e w1 ⟨rfl, hg⟩
    have HG := Lib.hid hg
    clear hg
    go_wp2
    go_ret
    exact ⟨rfl, HG.out⟩
  · have e1 : IntKind.u64.wrap n = n := IntWalk.u64_in _ (by omega)
    have HC := Lib.hid (add_gr n 0 q w ⟨by omega, by omega⟩ ⟨by decide, by decide⟩)
    have HV : Hid (addI n 0 q = n % q) := Lib.hid (by rw [addI_yes _ _ _ hm, Int.add_zero])
    rw [HV.out] at HC
    clear hm n0 n1
    go_enter Tryd.func82, Tryd.ntmps82
    go_wp2_with fail
    refine HC.out.mono ?_
    rintro e w1 ⟨rfl, hg⟩
    have HG := Lib.hid hg
    clear hg
    go_wp2
    go_ret
    exact ⟨rfl, HG.out⟩
set_option maxHeartbeats 400000 in
theorem fit_yes (p : Par) (w : World) (hm : mayP p = true) :
    Calls Tryd.prog 104 #[p.v] w fun e w' => e = .returned (.bool true) ∧ w.grownBy w' none := by
  obtain ⟨k1, k2, d1, d2, M1, M2, _, x1, x2, _⟩ := may_sizes hm
  have a1 : (0 : Int) ≤ p.K := by omega
  have a2 : (0 : Int) ≤ p.D := by omega
  have a3 : (0 : Int) ≤ p.M := by omega
  have a4 : (0 : Int) ≤ p.X := by omega
  clear hm
  go_enter Tryd.func104, Tryd.ntmps104
  go_wp2
  go_ret
  exact ⟨by simp [*], World.grownBy_alloc w _ none⟩
/-- Farther from 0 than that. -/
def farB (most n : Int) : Bool := decide (n < wrap64 (-most)) || decide (n > most)
theorem farOne_any (most : Int) (B : Nat) (n : Int) (w : World) (hb : Bk w B 2 #[.int .i64 most]) :
    Calls Tryd.prog 117 #[.int .i64 n, .pointer (some ⟨B, 0, none⟩)] w fun e w' => e = .returned (.bool (farB most n)) ∧ w.grownBy w' none := by
  have c0 : w.cell? ⟨B, 0, none⟩ = some (.int .i64 most) := hb.cell 0
  clear hb
  by_cases h1 : n < wrap64 (-most)
  · have hr : farB most n = true := by simp [farB, h1]
    rw [hr]
    clear hr
    go_enter Tryd.func117, Tryd.ntmps117
    go_wp2
    go_ret
    exact ⟨by simp [*], World.grownBy.refl _ none⟩
  · have hr : farB most n = decide (n > most) := by simp [farB, h1]
    rw [hr]
    clear hr
    go_enter Tryd.func117, Tryd.ntmps117
    go_wp2
    go_ret
    exact ⟨by simp [*], World.grownBy.refl _ none⟩
set_option maxHeartbeats 400000 in
theorem indexFar (most : Int) (B : Nat) (v : Value) (l : List (Int)) (X : Nat → Prop) (w : World) (hb : Bk w B 2 #[.int .i64 most]) (h : Sl encI X w v l) :
    Calls Tryd.prog 122 #[v, .func (.func 117) #[] #[.pointer (some ⟨B, 0, none⟩)]] w (FoundB (l.any fun x => farB most x) w) := by
  have Hhb := Lib.hid hb
  have H := Lib.hid h
  have hl := h.bound
  obtain ⟨A, c, rfl, _, _⟩ := h.form
  clear h hb
  go_enter Tryd.func122, Tryd.ntmps122
  go_wp2_with fail
  go_loopg [8] l.length (fun n s8 wx => ∃ j : Nat, j + n = l.length ∧ s8 = .int .i64 j ∧ Hid (w.grownBy wx none ∧ ∀ i (h : i < l.length), i < j → farB most l[i] = false))
  case atStart => exact ⟨0, by omega, rfl, Lib.hid ⟨World.grownBy.refl w none, fun i hi h => absurd h (by omega)⟩⟩
  case round =>
    obtain ⟨j, hj, rfl, HX⟩ := hrel
    cases gk with
    | zero =>
      obtain rfl : j = l.length := by omega
      have HE : Hid (FoundB (l.any fun x => farB most x) w (.returned (.int .i64 (-1))) wr) := Lib.hid ⟨-1, rfl, by
        have : (l.any fun x => farB most x) = false := by
          rw [List.any_eq_false]
          intro b hb
          obtain ⟨i, hi, rfl⟩ := List.getElem_of_mem hb
          simp [HX.out.2 i hi hi]
        rw [this]
        rfl, ⟨by decide, by decide⟩, HX.out.1⟩
      clear HX
      go_wp2
      go_ret
      exact HE.out
    | succ k =>
      have hjn : (j : Int) < (l.length : Int) := by omega
      have hjN : j < l.length := by omega
      obtain ⟨g, o, c', e, _, _, hcu, hu⟩ := (H.out.kept HX.out.1).atI hjN
      injection e with e1 e2 e3
      subst e1 e3
      have HC := Lib.hid (farOne_any most B l[j] wr (Hhb.out.grown HX.out.1 (by simp)))
      have HV : Hid (farB most l[j] = false ∨ farB most l[j] = true) := Lib.hid (by cases farB most l[j] <;> simp)
      have HR : Hid (farB most l[j] = false → ∀ i (h : i < l.length), i < j + 1 → farB most l[i] = false) := Lib.hid (fun h i hi hl => by
        rcases Nat.lt_or_ge i j with h1 | h1
        · exact HX.out.2 i hi h1
        · obtain rfl : i = j := by omega
          exact h)
      have HN : Hid (farB most l[j] = true → (l.any fun x => farB most x) = true) := Lib.hid (fun h => List.any_eq_true.2 ⟨_, List.getElem_mem hjN, by simp [h]⟩)
      have HG := Lib.hid HX.out.1
      clear HX hu e2
      generalize farB most l[j] = b at *
      generalize l[j] = x at *
      rcases HV.out with rfl | rfl
      · go_wp2_with fail
        refine HC.out.mono ?_
        rintro e w1 ⟨rfl, hg⟩
        have HG1 := Lib.hid (HG.out.trans hg)
        clear hg
        go_wp2
        go_roundg k
        case measure => omega
        case rel => exact ⟨j + 1, by omega, by go_num, Lib.hid ⟨HG1.out, HR.out (by simp)⟩⟩
      · have HE : Hid (∀ w1, w.grownBy w1 none → FoundB (l.any fun x => farB most x) w (.returned (.int .i64 j)) w1) := Lib.hid (fun w1 hg => ⟨j, rfl, by rw [HN.out rfl]; simp, ⟨by omega, by omega⟩, hg⟩)
        go_wp2_with fail
        refine HC.out.mono ?_
        rintro e w1 ⟨rfl, hg⟩
        have HG1 := Lib.hid (HG.out.trans hg)
        clear hg
        go_wp2
        go_ret
        exact HE.out _ HG1.out
set_option maxHeartbeats 400000 in
theorem containsFar (most : Int) (B : Nat) (v : Value) (l : List (Int)) (X : Nat → Prop) (w : World) (hb : Bk w B 2 #[.int .i64 most]) (h : Sl encI X w v l) :
    Calls Tryd.prog 116 #[v, .func (.func 117) #[] #[.pointer (some ⟨B, 0, none⟩)]] w fun e w' => e = .returned (.bool (l.any fun x => farB most x)) ∧ w.grownBy w' none := by
  have HC := Lib.hid (indexFar most B v l X w hb h)
  obtain ⟨A, c, rfl, _, _⟩ := h.form
  clear h hb
  go_enter Tryd.func116, Tryd.ntmps116
  go_wp2_with fail
  refine HC.out.mono ?_
  rintro e w1 ⟨r, rfl, hr, _, hg⟩
  have HG := Lib.hid hg
  have HR := Lib.hid hr
  clear hg hr
  go_wp2
  go_ret
  exact ⟨ret_bool HR.out, HG.out⟩
set_option maxHeartbeats 400000 in
theorem within_yes (most : Int) (v : Value) (L : List (List Int)) (X : Nat → Prop) (w : World) (h : Sl (encS encI) X w v L) (hL : ∀ l ∈ L, ∀ n ∈ l, farB most n = false) :
    Calls Tryd.prog 107 #[.int .i64 most, v] w fun e w' => e = .returned (.bool true) ∧ w.grownBy w' none := by
  have HB : Hid (Bk (w.alloc (.cells #[.int .i64 most] 2)) w.heap.size 2 #[.int .i64 most]) := Lib.hid (Bk.new w _ _)
  have HG0 : Hid (w.grownBy (w.alloc (.cells #[.int .i64 most] 2)) none) := Lib.hid (World.grownBy_alloc w _ none)
  have H := Lib.hid (h.kept HG0.out)
  have HF := Lib.hid hL
  obtain ⟨A, c, rfl, hc1, hc2⟩ := h.form
  clear h hL
  go_enter Tryd.func107, Tryd.ntmps107
  go_wp2_with fail
  obtain ⟨w0, hw0⟩ : ∃ y, y = w.alloc (Obj.cells #[.int .i64 most] 2) := ⟨_, rfl⟩
  rw [← hw0] at HB HG0 H ⊢
  clear hw0
  go_loopg [9] L.length (fun g s9 wx => ∃ j : Nat, j + g = L.length ∧ s9 = .int .i64 j ∧ Hid (w0.grownBy wx none))
  case atStart => exact ⟨0, by omega, rfl, Lib.hid (World.grownBy.refl _ none)⟩
  case round =>
    obtain ⟨j, hj, rfl, HX⟩ := hrel
    cases gk with
    | zero =>
      obtain rfl : j = L.length := by omega
      go_wp2
      go_ret
      exact ⟨rfl, HG0.out.trans HX.out⟩
    | succ m =>
      have hjn : (j : Int) < (L.length : Int) := by omega
      have hjN : j < L.length := by omega
      obtain ⟨g, o, c', u, e, _, _, hcu, hu⟩ := (H.out.kept HX.out).atS hjN
      injection e with e1 e2 e3
      subst e1 e3
      have hz : (L[j].any fun x => farB most x) = false := List.any_eq_false.2 fun x hx => by simp [HF.out _ (List.getElem_mem hjN) x hx]
      have HC := Lib.hid (containsFar most w.heap.size u L[j] _ wr (HB.out.grown HX.out (by simp)) hu)
      rw [hz] at HC
      obtain ⟨A7, c7, e7, _, _⟩ := hu.form
      generalize L[j].length = n7 at e7
      subst e7
      clear hu hz e2
      go_wp2_with fail
      refine HC.out.mono ?_
      rintro e w1 ⟨rfl, hg⟩
      have HG1 : Hid (w0.grownBy w1 none) := Lib.hid (HX.out.trans hg)
      clear hg
      go_wp2
      go_roundg m
      case measure => omega
      case rel => exact ⟨j + 1, by omega, by go_num, HG1⟩
/-- A row that is too short or too long. -/
def offB (p : Par) (x : List Int) : Bool := !((x.length : Int) == p.D)
theorem off_any (p : Par) (B : Nat) (v : Value) (x : List Int) (X : Nat → Prop) (w : World) (hb : Bk w B 24 p.cells) (h : Sl encI X w v x) :
    Calls Tryd.prog 106 #[v, .pointer (some ⟨B, 0, none⟩)] w fun e w' => e = .returned (.bool (offB p x)) ∧ w.grownBy w' none := by
  obtain ⟨A, c, rfl, _, _⟩ := h.form
  have hp := hb.prule
  have hr : offB p x = ((x.length : Int) != p.D) := rfl
  rw [hr]
  clear h hb hr
  generalize x.length = n at *
  go_enter Tryd.func106, Tryd.ntmps106
  go_wp2
  go_ret
  exact ⟨rfl, World.grownBy.refl _ none⟩
set_option maxHeartbeats 400000 in
theorem indexOff (p : Par) (B : Nat) (v : Value) (l : List (List Int)) (X : Nat → Prop) (w : World) (hb : Bk w B 24 p.cells) (h : Sl (encS encI) X w v l) :
    Calls Tryd.prog 115 #[v, .func (.func 106) #[] #[.pointer (some ⟨B, 0, none⟩)]] w (FoundB (l.any fun x => offB p x) w) := by
  have Hhb := Lib.hid hb
  have H := Lib.hid h
  have hl := h.bound
  obtain ⟨A, c, rfl, _, _⟩ := h.form
  clear h hb
  go_enter Tryd.func115, Tryd.ntmps115
  go_wp2_with fail
  go_loopg [8] l.length (fun n s8 wx => ∃ j : Nat, j + n = l.length ∧ s8 = .int .i64 j ∧ Hid (w.grownBy wx none ∧ ∀ i (h : i < l.length), i < j → offB p l[i] = false))
  case atStart => exact ⟨0, by omega, rfl, Lib.hid ⟨World.grownBy.refl w none, fun i hi h => absurd h (by omega)⟩⟩
  case round =>
    obtain ⟨j, hj, rfl, HX⟩ := hrel
    cases gk with
    | zero =>
      obtain rfl : j = l.length := by omega
      have HE : Hid (FoundB (l.any fun x => offB p x) w (.returned (.int .i64 (-1))) wr) := Lib.hid ⟨-1, rfl, by
        have : (l.any fun x => offB p x) = false := by
          rw [List.any_eq_false]
          intro b hb
          obtain ⟨i, hi, rfl⟩ := List.getElem_of_mem hb
          simp [HX.out.2 i hi hi]
        rw [this]
        rfl, ⟨by decide, by decide⟩, HX.out.1⟩
      clear HX
      go_wp2
      go_ret
      exact HE.out
    | succ k =>
      have hjn : (j : Int) < (l.length : Int) := by omega
      have hjN : j < l.length := by omega
      obtain ⟨g, o, c', u, e, _, _, hcu, hu⟩ := (H.out.kept HX.out.1).atS hjN
      injection e with e1 e2 e3
      subst e1 e3
      have HC := Lib.hid (off_any p B u l[j] _ wr (Hhb.out.grown HX.out.1 (by simp)) hu)
      have HV : Hid (offB p l[j] = false ∨ offB p l[j] = true) := Lib.hid (by cases offB p l[j] <;> simp)
      have HR : Hid (offB p l[j] = false → ∀ i (h : i < l.length), i < j + 1 → offB p l[i] = false) := Lib.hid (fun h i hi hl => by
        rcases Nat.lt_or_ge i j with h1 | h1
        · exact HX.out.2 i hi h1
        · obtain rfl : i = j := by omega
          exact h)
      have HN : Hid (offB p l[j] = true → (l.any fun x => offB p x) = true) := Lib.hid (fun h => List.any_eq_true.2 ⟨_, List.getElem_mem hjN, by simp [h]⟩)
      obtain ⟨A7, c7, e7, _, _⟩ := hu.form
      generalize l[j].length = n7 at e7
      subst e7
      have HG := Lib.hid HX.out.1
      clear HX hu e2
      generalize offB p l[j] = b at *
      generalize l[j] = x at *
      rcases HV.out with rfl | rfl
      · go_wp2_with fail
        refine HC.out.mono ?_
        rintro e w1 ⟨rfl, hg⟩
        have HG1 := Lib.hid (HG.out.trans hg)
        clear hg
        go_wp2
        go_roundg k
        case measure => omega
        case rel => exact ⟨j + 1, by omega, by go_num, Lib.hid ⟨HG1.out, HR.out (by simp)⟩⟩
      · have HE : Hid (∀ w1, w.grownBy w1 none → FoundB (l.any fun x => offB p x) w (.returned (.int .i64 j)) w1) := Lib.hid (fun w1 hg => ⟨j, rfl, by rw [HN.out rfl]; simp, ⟨by omega, by omega⟩, hg⟩)
        go_wp2_with fail
        refine HC.out.mono ?_
        rintro e w1 ⟨rfl, hg⟩
        have HG1 := Lib.hid (HG.out.trans hg)
        clear hg
        go_wp2
        go_ret
        exact HE.out _ HG1.out
set_option maxHeartbeats 400000 in
theorem containsOff (p : Par) (B : Nat) (v : Value) (l : List (List Int)) (X : Nat → Prop) (w : World) (hb : Bk w B 24 p.cells) (h : Sl (encS encI) X w v l) :
    Calls Tryd.prog 105 #[v, .func (.func 106) #[] #[.pointer (some ⟨B, 0, none⟩)]] w fun e w' => e = .returned (.bool (l.any fun x => offB p x)) ∧ w.grownBy w' none := by
  have HC := Lib.hid (indexOff p B v l X w hb h)
  obtain ⟨A, c, rfl, _, _⟩ := h.form
  clear h hb
  go_enter Tryd.func105, Tryd.ntmps105
  go_wp2_with fail
  refine HC.out.mono ?_
  rintro e w1 ⟨r, rfl, hr, _, hg⟩
  have HG := Lib.hid hg
  have HR := Lib.hid hr
  clear hg hr
  go_wp2
  go_ret
  exact ⟨ret_bool HR.out, HG.out⟩
end Go.Proofs.YtmjdpmfcbeaecaaDoor

namespace Go.Proofs.YtmjdpmfcbeaecaaDoor
open Go Go.RowKit

set_option maxHeartbeats 1000000 in
theorem numbers_any (q : Int) (v : Value) (l : List Int) (X : Nat → Prop) (w : World) (h : Sl encI X w v l) (hq : U64 q) (hm : mayB q = true) (hb : l.length ≤ 100000) :
    Calls Tryd.prog 81 #[.int .u64 q, v] w (Gives encU (fun g => w.heap.size ≤ g) w (l.map (· % q))) := by
  have H := Lib.hid h
  have HB := Lib.hid hb
  have HQ := Lib.hid hq
  have HM := Lib.hid hm
  have h0 := mayB_pos hm
  obtain ⟨A, c, rfl, hc1, hc2⟩ := h.form
  clear h hb hq hm
  go_enter Tryd.func81, Tryd.ntmps81
  go_wp2_with fail
  go_loopg [5, 10] l.length (fun g s5 s10 wx => ∃ j : Nat, j + g = l.length ∧ s10 = .int .i64 j ∧ Hid (Acc encU w.heap.size 22 (fun g => w.heap.size ≤ g) wx s5 ((l.take j).map (· % q)) ∧ w.grownBy wx none))
  case atStart => exact ⟨0, by omega, rfl, Lib.hid ⟨Acc.nil _ _ _ _ _, World.grownBy.refl _ none⟩⟩
  case round =>
    obtain ⟨j, hj, rfl, HX⟩ := hrel
    cases gk with
    | zero =>
      obtain rfl : j = l.length := by omega
      have HR : Hid (Sl encU (fun g => w.heap.size ≤ g) wr u5 (l.map (· % q)) ∧ w.grownBy wr none) := Lib.hid ⟨by have := HX.out.1.sl; rwa [List.take_length] at this, HX.out.2⟩
      clear HX
      go_wp2
      go_ret
      exact ⟨_, rfl, HR.out.1, HR.out.2⟩
    | succ m =>
      have hjn : (j : Int) < (l.length : Int) := by omega
      have hjN : j < l.length := by omega
      obtain ⟨hacc, hg⟩ := HX.out
      obtain ⟨g, o, c', e, _, _, hcu, hi⟩ := (H.out.kept hg).atI hjN
      injection e with e1 e2 e3
      subst e1 e3
      have HSN : Hid ((l.take (j + 1)).map (· % q) = (l.take j).map (· % q) ++ [l[j] % q]) := Lib.hid (by rw [List.take_succ_eq_append_getElem hjN, List.map_append]; rfl)
      have HU : Hid (U64 (l[j] % q)) := Lib.hid (by have := HQ.out; exact ⟨Int.emod_nonneg _ (by omega), Int.lt_trans (Int.emod_lt_of_pos _ h0) (by obtain ⟨a, b⟩ := this; omega)⟩)
      have HC := Lib.hid (fnum_any l[j] q wr hi HQ.out HM.out)
      have HAC := Lib.hid hacc
      have HG := Lib.hid hg
      have HLB : Hid ((((l.take j).map (· % q)).length + 1) * 8 ≤ 140737488355328) := Lib.hid (by have := HB.out; simp; omega)
      clear hacc hg HX hi e2
      generalize l[j] = y at *
      obtain ⟨z, hz⟩ : ∃ z, z = y % q := ⟨_, rfl⟩
      rw [← hz] at HSN HU HC
      clear hz
      generalize l.length = n at *
      go_wp2_with fail
      refine HC.out.mono ?_
      rintro e w1 ⟨rfl, hg⟩
      have HG1 : Hid (w.grownBy w1 none) := Lib.hid (HG.out.trans hg)
      have HAC1 := Lib.hid (HAC.out.kept hg)
      clear hg
      go_wp2_with (at_builtin; refine wpList_pushG rfl (.tmp 14) (.tmp 18) rfl (E := encU) (y := z) el_u64 HG1.out HAC1.out (fun _ h => h) ⟨rfl, HU.out⟩ HLB.out rfl rfl ?_)
      intro v2 w2 hacc2 hg2 hgo
      have HFIN : Hid (Acc encU w.heap.size 22 (fun g => w.heap.size ≤ g) w2 v2 ((l.take (j + 1)).map (· % q)) ∧ w.grownBy w2 none) := Lib.hid ⟨by rw [HSN.out]; simpa using hacc2, hg2⟩
      clear hacc2 hg2 hgo
      go_wp2_with fail
      go_roundg m
      case measure => omega
      case rel => exact ⟨j + 1, by omega, by go_num, HFIN⟩
set_option maxHeartbeats 1000000 in
theorem fmay_yes (p : Par) (vW vB : Value) (W : List (List Int)) (B : List Int) (X Y : Nat → Prop) (w : World) (hm : mayP p = true) (hW : Sl (encS encI) X w vW W) (hB : Sl encI Y w vB B) (lW : (W.length : Int) = p.K) (lB : (B.length : Int) = p.K) (hr : ∀ l ∈ W, (l.length : Int) = p.D) (f1 : ∀ l ∈ W, ∀ n ∈ l, farB p.M n = false) (f2 : ∀ n ∈ B, farB p.M n = false) :
    Calls Tryd.prog 80 #[p.v, .agg #[vW, vB]] w fun e w' => e = .returned (.bool true) ∧ w.grownBy w' none := by
  obtain ⟨w0, hw0⟩ : ∃ y, y = (w.alloc (.cells p.cells 24)).alloc (.cells #[vW, vB] 59) := ⟨_, rfl⟩
  have HG0 : Hid (w.grownBy w0 none) := Lib.hid (by rw [hw0]; exact grown_two)
  have HBP : Hid (Bk w0 w.heap.size 24 p.cells) := Lib.hid (by rw [hw0]; exact (Bk.new w _ _).alloc _)
  have HBM : Hid (Bk w0 (w.heap.size + 1) 59 #[vW, vB]) := Lib.hid (by
    rw [hw0]
    have h := Bk.new (w.alloc (Obj.cells p.cells 24)) 59 #[vW, vB]
    rw [World.size_alloc] at h
    exact h)
  have HW := Lib.hid (hW.kept HG0.out)
  have HV := Lib.hid (hB.kept HG0.out)
  have hz : (W.any fun x => offB p x) = false := List.any_eq_false.2 fun x hx => by simp [offB, hr x hx]
  have HOF := Lib.hid (fun (w' : World) (hg : w0.grownBy w' none) => containsOff p w.heap.size vW W X w' (HBP.out.grown hg (by simp)) (HW.out.kept hg))
  have HW1 := Lib.hid (fun (w' : World) (hg : w0.grownBy w' none) => within_yes p.M vW W X w' (HW.out.kept hg) f1)
  have HW2 := Lib.hid (fun (v : Value) (w' : World) (h : Sl (encS encI) TT w' v [B]) => within_yes p.M v [B] TT w' h (fun l hl => by rw [List.mem_singleton.1 hl]; exact f2))
  have HFIT := Lib.hid (fun w' => fit_yes p w' hm)
  rw [hz] at HOF
  obtain ⟨A1, c1, rfl, _, _⟩ := hW.form
  obtain ⟨A2, c2, rfl, _, hc2⟩ := hB.form
  have b1 : ((W.length : Int) != p.K) = false := by simp [lW]
  have b2 : ((B.length : Int) != p.K) = false := by simp [lB]
  clear hW hB hr f1 f2 hz lW lB hm
  generalize hWn : W.length = nW at *
  generalize hBn : B.length = nB at *
  clear hWn
  go_enter Tryd.func80, Tryd.ntmps80
  go_wp2_with fail
  rw [← hw0]
  refine (HFIT.out _).mono ?_
  rintro e w1 ⟨rfl, hg⟩
  have HG1 : Hid (w0.grownBy w1 none) := Lib.hid hg
  have hp1 := (HBP.out.grown hg (by simp)).prule
  have m0 := (HBM.out.grown hg (by simp)).cell 0
  have m1 := (HBM.out.grown hg (by simp)).cell 1
  simp at m0 m1
  clear hg hw0
  go_wp2_with fail
  refine (HOF.out _ HG1.out).mono ?_
  rintro e w2 ⟨rfl, hg⟩
  have HG2 : Hid (w0.grownBy w2 none) := Lib.hid (HG1.out.trans hg)
  have hp2 := (HBP.out.grown HG2.out (by simp)).prule
  have m2 := (HBM.out.grown HG2.out (by simp)).cell 0
  have m3 := (HBM.out.grown HG2.out (by simp)).cell 1
  simp at m2 m3
  clear hg hp1 m0 m1
  go_wp2_with fail
  refine (HW1.out _ HG2.out).mono ?_
  rintro e w3 ⟨rfl, hg⟩
  have HG3 : Hid (w0.grownBy w3 none) := Lib.hid (HG2.out.trans hg)
  have hp3 := (HBP.out.grown HG3.out (by simp)).prule
  have m4 := (HBM.out.grown HG3.out (by simp)).cell 1
  simp at m4
  have HSL : Hid (Sl (encS encI) TT (w3.alloc (.cells #[.slice A2 nB c2] 56)) (.slice (some ⟨w3.heap.size, 0, none⟩) 1 1) [B]) := Lib.hid (Sl.build [[.slice A2 nB c2]] rfl ⟨⟨_, rfl, (HV.out.kept HG3.out).more fun _ _ _ => trivial⟩, trivial⟩ rfl (by decide))
  clear hg hp2 m2 m3
  go_wp2_with fail
  refine (HW2.out _ _ HSL.out).mono ?_
  rintro e w4 ⟨rfl, hg⟩
  have HG4 : Hid (w.grownBy w4 none) := Lib.hid (HG0.out.trans (HG3.out.trans ((World.grownBy_alloc _ _ none).trans hg)))
  clear hg
  go_wp2
  go_ret
  exact ⟨rfl, HG4.out⟩
/-- A model's secrets, row by row. -/
def secL (q : Int) (W : List (List Int)) (B : List Int) (k : Nat) : List Int := ((List.range k).map fun i => (W[i]?.getD []).map (· % q) ++ [(B[i]?.getD 0) % q]).flatten
theorem secL_succ (q : Int) (W : List (List Int)) (B : List Int) (k : Nat) : secL q W B (k + 1) = secL q W B k ++ (W[k]?.getD []).map (· % q) ++ [(B[k]?.getD 0) % q] := by
  simp [secL, List.range_succ]
theorem secL_len (q : Int) (W : List (List Int)) (B : List Int) (d : Nat) (h : ∀ l ∈ W, l.length = d) : ∀ k, k ≤ W.length → (secL q W B k).length = k * (d + 1)
  | 0, _ => by simp [secL]
  | k + 1, hk => by
    rw [secL_succ, List.length_append, List.length_append, secL_len q W B d h k (by omega), List.getElem?_eq_getElem (by omega)]
    have := h _ (List.getElem_mem (show k < W.length by omega))
    simp [this, Nat.add_mul]
    omega
/-- What lies in the secrets of the model that the law draws. -/
theorem who_secrets {p : Par} (hm : mayP p = true) (l : List Int) : secL p.Q (whoW p l) (whoB p l) p.K.toNat = whoS p l := by
  have hsec := secretsI_eq hm
  have hlen : ∀ x ∈ whoW p l, x.length = p.D.toNat := fun x hx => by
    obtain ⟨k, _, rfl⟩ := List.mem_map.1 hx
    simp
  have key : ∀ k, k ≤ p.K.toNat → secL p.Q (whoW p l) (whoB p l) k = (List.range (k * (p.D.toNat + 1))).map fun a => drw l p.M a % p.Q := by
    intro k
    induction k with
    | zero => intro _; simp [secL]
    | succ k ih =>
      intro hk
      rw [secL_succ, ih (by omega), Nat.add_mul, Nat.one_mul, ← Nat.add_assoc, List.range_succ, List.map_append, List.range_add, List.map_append]
      have hkr : (List.range p.K.toNat)[k]? = some k := List.getElem?_range (by omega)
      congr 1
      · congr 1
        simp [whoW, hkr, Function.comp_def]
      · simp [whoB, hkr]
  rw [key _ (Nat.le_refl _)]
  unfold whoS
  rw [hsec, Int.toNat_natCast]
set_option maxHeartbeats 1000000 in
theorem values_any (v : Value) (l : List (Int × Int)) (X : Nat → Prop) (w : World) (h : Sl encP X w v l) (hb : l.length ≤ 100000) :
    Calls Tryd.prog 28 #[v] w (Gives encU (fun g => w.heap.size ≤ g) w (l.map (·.1))) := by
  have H := Lib.hid h
  have HB := Lib.hid hb
  obtain ⟨A, c, rfl, hc1, hc2⟩ := h.form
  clear h hb
  go_enter Tryd.func28, Tryd.ntmps28
  go_wp2_with fail
  go_loopg [3, 4] l.length (fun g s3 s4 wx => ∃ j : Nat, j + g = l.length ∧ s4 = .int .i64 j ∧ Hid (Acc encU w.heap.size 22 (fun g => w.heap.size ≤ g) wx s3 ((l.take j).map (·.1)) ∧ w.grownBy wx none))
  case atStart => exact ⟨0, by omega, rfl, Lib.hid ⟨Acc.nil _ _ _ _ _, World.grownBy.refl _ none⟩⟩
  case round =>
    obtain ⟨j, hj, rfl, HX⟩ := hrel
    cases gk with
    | zero =>
      obtain rfl : j = l.length := by omega
      have HR : Hid (Sl encU (fun g => w.heap.size ≤ g) wr u3 (l.map (·.1)) ∧ w.grownBy wr none) := Lib.hid ⟨by have := HX.out.1.sl; rwa [List.take_length] at this, HX.out.2⟩
      clear HX
      go_wp2
      go_ret
      exact ⟨_, rfl, HR.out.1, HR.out.2⟩
    | succ m =>
      have hjn : (j : Int) < (l.length : Int) := by omega
      have hjN : j < l.length := by omega
      obtain ⟨hacc, hg⟩ := HX.out
      obtain ⟨g, o, c', e, _, _, hcu, _, hu1, _⟩ := (H.out.kept hg).atP hjN
      injection e with e1 e2 e3
      subst e1 e3
      have HSN : Hid ((l.take (j + 1)).map (·.1) = (l.take j).map (·.1) ++ [l[j].1]) := Lib.hid (by rw [List.take_succ_eq_append_getElem hjN, List.map_append]; rfl)
      have HU : Hid (U64 l[j].1) := Lib.hid hu1
      have HAC := Lib.hid hacc
      have HG := Lib.hid hg
      have HLB : Hid ((((l.take j).map (·.1)).length + 1) * 8 ≤ 140737488355328) := Lib.hid (by have := HB.out; simp; omega)
      clear hacc hg HX hu1 e2
      generalize l[j] = yy at *
      obtain ⟨y, yb⟩ := yy
      simp only at HSN HU hcu
      generalize l.length = n at *
      go_wp2_with (at_builtin; refine wpList_pushG rfl (.tmp 11) (.tmp 17) rfl (E := encU) (y := y) el_u64 HG.out HAC.out (fun _ h => h) ⟨rfl, HU.out⟩ HLB.out rfl rfl ?_)
      intro v2 w2 hacc2 hg2 hgo
      have HFIN : Hid (Acc encU w.heap.size 22 (fun g => w.heap.size ≤ g) w2 v2 ((l.take (j + 1)).map (·.1)) ∧ w.grownBy w2 none) := Lib.hid ⟨by rw [HSN.out]; simpa using hacc2, hg2⟩
      clear hacc2 hg2 hgo
      go_wp2_with fail
      go_roundg m
      case measure => omega
      case rel => exact ⟨j + 1, by omega, by go_num, HFIN⟩
set_option maxHeartbeats 1000000 in
theorem picked_any (v va : Value) (ls : List (List (Int × Int))) (at_ : List Int) (X Y : Nat → Prop) (w : World) (h : Sl (encS encP) X w v ls) (ha : Sl encI Y w va at_) (hi : ∀ i ∈ at_, 1 ≤ i ∧ i ≤ (ls.length : Int)) (hb : at_.length ≤ 100000) :
    Calls Tryd.prog 26 #[v, va] w (Gives (encS encP) TT w (at_.map fun i => ls[(i - 1).toNat]?.getD [])) := by
  have H := Lib.hid h
  have HA := Lib.hid ha
  have HI := Lib.hid hi
  have HB := Lib.hid hb
  obtain ⟨A, c, rfl, hc1, hc2⟩ := h.form
  obtain ⟨Aa, ca, rfl, hca1, hca2⟩ := ha.form
  clear h ha hi hb
  go_enter Tryd.func26, Tryd.ntmps26
  go_wp2_with fail
  go_loopg [5, 6] at_.length (fun g s5 s6 wx => ∃ j : Nat, j + g = at_.length ∧ s6 = .int .i64 j ∧ Hid (Acc (encS encP) w.heap.size 25 TT wx s5 ((at_.take j).map fun i => ls[(i - 1).toNat]?.getD []) ∧ w.grownBy wx none))
  case atStart => exact ⟨0, by omega, rfl, Lib.hid ⟨Acc.nil _ _ _ _ _, World.grownBy.refl _ none⟩⟩
  case round =>
    obtain ⟨j, hj, rfl, HX⟩ := hrel
    cases gk with
    | zero =>
      obtain rfl : j = at_.length := by omega
      have HR : Hid (Sl (encS encP) TT wr u5 (at_.map fun i => ls[(i - 1).toNat]?.getD []) ∧ w.grownBy wr none) := Lib.hid ⟨by have := HX.out.1.sl; rwa [List.take_length] at this, HX.out.2⟩
      clear HX
      go_wp2
      go_ret
      exact ⟨_, rfl, HR.out.1, HR.out.2⟩
    | succ m =>
      have hjn : (j : Int) < (at_.length : Int) := by omega
      have hjN : j < at_.length := by omega
      obtain ⟨hacc, hg⟩ := HX.out
      obtain ⟨ga, oa, ca', ea, _, _, hca, _⟩ := (HA.out.kept hg).atI hjN
      injection ea with ea1 ea2 ea3
      subst ea1 ea3
      obtain ⟨i1, i2⟩ := HI.out _ (List.getElem_mem hjN)
      have HSN : Hid ((at_.take (j + 1)).map (fun i => ls[(i - 1).toNat]?.getD []) = (at_.take j).map (fun i => ls[(i - 1).toNat]?.getD []) ++ [ls[(at_[j] - 1).toNat]?.getD []]) := Lib.hid (by rw [List.take_succ_eq_append_getElem hjN, List.map_append]; rfl)
      have HLB : Hid ((((at_.take j).map fun i => ls[(i - 1).toNat]?.getD []).length + 1) * 24 ≤ 140737488355328) := Lib.hid (by have := HB.out; simp; omega)
      obtain ⟨k, hk⟩ : ∃ k : Nat, at_[j] = (k : Int) + 1 := ⟨(at_[j] - 1).toNat, by omega⟩
      have hkN : k < ls.length := by omega
      have hkI : (k : Int) < (ls.length : Int) := by omega
      have hkt : (at_[j] - 1).toNat = k := by omega
      rw [hkt, List.getElem?_eq_getElem hkN] at HSN
      obtain ⟨g, o, c', u, e, _, _, hcu0, hsu⟩ := H.out.atS hkN
      injection e with e1 e2 e3
      subst e1 e3
      have hcu : wr.cell? ⟨g, o + k, none⟩ = some u := cell_kept hcu0 hg (by simp)
      rw [hk] at hca
      have hk1 : IntKind.i64.wrap (k : Int) = (k : Int) := IntWalk.i64_in _ (by omega)
      have hk0 : (0 : Int) ≤ (k : Int) := by omega
      obtain ⟨A2, c3, e3, _, _⟩ := hsu.form
      subst e3
      have HREP : Hid ((encS encP).rep (fun g => TT g ∧ some g ≠ u5.ownBlock) wr [.slice A2 ls[k].length c3] ls[k]) := Lib.hid ⟨_, rfl, (hsu.more fun g hlt hX => ⟨trivial, fun e => by have := (hacc.lt g e.symm).1; omega⟩).kept hg⟩
      have HAC := Lib.hid hacc
      have HG := Lib.hid hg
      clear hacc hg HX hsu hcu0 hk hkt i1 i2 e2 ea2
      generalize ls[k] = y at *
      generalize y.length = ny at *
      go_wp2_with (at_builtin; refine wpList_pushG rfl (.tmp 13) (.tmp 22) rfl (E := encS encP) (y := y) el_pairs HG.out HAC.out (fun _ _ => trivial) HREP.out HLB.out rfl rfl ?_)
      intro v2 w2 hacc2 hg2 hgo
      have HFIN : Hid (Acc (encS encP) w.heap.size 25 TT w2 v2 ((at_.take (j + 1)).map fun i => ls[(i - 1).toNat]?.getD []) ∧ w.grownBy w2 none) := Lib.hid ⟨by rw [HSN.out]; simpa using hacc2, hg2⟩
      clear hacc2 hg2 hgo
      go_wp2_with fail
      go_roundg m
      case measure => omega
      case rel => exact ⟨j + 1, by omega, by go_num, HFIN⟩
end Go.Proofs.YtmjdpmfcbeaecaaDoor

namespace Go.Proofs.YtmjdpmfcbeaecaaDoor
open Go Go.RowKit

/-- Where the worlds stand while a row is put to the secrets. -/
def secLt (w0 : World) (N : Nat) (u0 : Value) (xs ys : List Int) (z : Int) : Lt where
  C vs w := w0.grownBy w none ∧ N ≤ w.heap.size ∧ match vs with
    | [] => Acc encU w0.heap.size 22 (fun g => w0.heap.size ≤ g) w u0 xs
    | [u] => Acc encU w0.heap.size 22 (fun g => w0.heap.size ≤ g) w u (xs ++ ys)
    | [_, u] => Acc encU w0.heap.size 22 (fun g => w0.heap.size ≤ g) w u (xs ++ ys ++ [z])
    | _ => False
  R q w w' := match q with
    | 0 => w.grownBy w' u0.ownBlock
    | _ => True
  g := fun {vs w w'} ⟨h1, h2, h3⟩ hg => ⟨h1.trans hg, Nat.le_trans h2 hg.size, by
    match vs, h3 with
    | [], h3 => exact h3.kept hg
    | [_], h3 => exact h3.kept hg
    | [_, _], h3 => exact h3.kept hg⟩
def secN {w0 : World} {N0 : Nat} {u0 : Value} {xs ys0 : List Int} {z : Int} (N : Nat) (ys : List Int) : Qv (secLt w0 N0 u0 xs ys0 z) where
  p vs v w := vs = [] → Sl encU (fun g => N ≤ g) w v ys
  fr := 0
  st := fun h hg e => (h e).kept hg
  sr := fun _ _ _ _ e => absurd e (by simp)
def secZ {w0 : World} {N0 : Nat} {u0 : Value} {xs ys0 : List Int} {z0 : Int} (N : Nat) (z : Int) (hO : ∀ g, u0.ownBlock = some g → g < N) : Qv (secLt w0 N0 u0 xs ys0 z0) where
  p vs v w := vs.length ≤ 1 → BlkQ N 22 (.int .u64 z) v w
  fr := 0
  st := fun h hg e => by
    obtain ⟨b, e1, hb, hk⟩ := h e
    exact ⟨b, e1, hb, hk.grown hg (by simp)⟩
  sr := fun {vs u v w w'} _ _ hR h e => by
    have h0 : vs = [] := by simpa using e
    subst h0
    obtain ⟨b, e1, hb, hk⟩ := h (by simp)
    have hR : w.grownBy w' u0.ownBlock := hR
    exact ⟨b, e1, hb, hk.grown hR (fun e => by have := hO b e.symm; omega)⟩
theorem acc_step {w0 w w' : World} {v : Value} {xs : List Int} (h1 : w0.grownBy w none) (h3 : Acc encU w0.heap.size 22 (fun g => w0.heap.size ≤ g) w v xs) (hg : w.grownBy w' v.ownBlock) : w0.grownBy w' none := grown_up h1 hg (fun k e => (h3.lt k e).1)
set_option maxRecDepth 100000 in
set_option maxHeartbeats 2000000 in
theorem fsecrets_any (p : Par) (vW vB : Value) (W : List (List Int)) (B : List Int) (X Y : Nat → Prop) (w : World) (hm : mayP p = true) (hp : p.ok) (hW : Sl (encS encI) X w vW W) (hB : Sl encI Y w vB B) (lW : (W.length : Int) = p.K) (lB : (B.length : Int) = p.K) (hr : ∀ l ∈ W, (l.length : Int) = p.D) (f1 : ∀ l ∈ W, ∀ n ∈ l, farB p.M n = false) (f2 : ∀ n ∈ B, farB p.M n = false) :
    Calls Tryd.prog 24 #[p.v, .agg #[vW, vB]] w (Gives encU (fun g => w.heap.size ≤ g) w (secL p.Q W B W.length)) := by
  obtain ⟨hq, _, _, _, _, _, _, _, _, _, _, _⟩ := may_apart hm
  obtain ⟨k1, k2, d1, d2, _, _, _, _, _, _⟩ := may_sizes hm
  obtain ⟨w0, hw0⟩ : ∃ y, y = (w.alloc (.cells p.cells 24)).alloc (.cells #[vW, vB] 59) := ⟨_, rfl⟩
  have HG0 : Hid (w.grownBy w0 none) := Lib.hid (by rw [hw0]; exact grown_two)
  have HBP : Hid (Bk w0 w.heap.size 24 p.cells) := Lib.hid (by rw [hw0]; exact (Bk.new w _ _).alloc _)
  have HBM : Hid (Bk w0 (w.heap.size + 1) 59 #[vW, vB]) := Lib.hid (by
    rw [hw0]
    have h := Bk.new (w.alloc (Obj.cells p.cells 24)) 59 #[vW, vB]
    rw [World.size_alloc] at h
    exact h)
  have HW := Lib.hid (hW.kept HG0.out)
  have HV := Lib.hid (hB.kept HG0.out)
  have HMY := Lib.hid (fun (w' : World) (hg : w0.grownBy w' none) => fmay_yes p vW vB W B X Y w' hm (HW.out.kept hg) (HV.out.kept hg) lW lB hr f1 f2)
  have HQ := Lib.hid hq
  have HPO := Lib.hid hp
  have HWL : Hid (W.length ≤ 2 ∧ W.length = B.length) := Lib.hid ⟨by omega, by omega⟩
  have HRL : Hid (∀ l ∈ W, l.length = p.D.toNat) := Lib.hid (fun l hl => by have := hr l hl; omega)
  have HDD : Hid (p.D.toNat ≤ 4) := Lib.hid (by omega)
  obtain ⟨A1, c1, rfl, hW1, _⟩ := hW.form
  obtain ⟨A2, cB, rfl, hB1, _⟩ := hB.form
  clear hW hB hr f1 f2 lW lB hm hq hp k1 k2 d1 d2
  go_enter Tryd.func24, Tryd.ntmps24
  go_wp2_with fail
  rw [← hw0]
  have hp0 := HBP.out.prule
  have m0 := HBM.out.cell 0
  have m1 := HBM.out.cell 1
  simp at m0 m1
  clear hw0
  go_wp2_with fail
  refine (HMY.out _ (World.grownBy.refl _ none)).mono ?_
  rintro e w1 ⟨rfl, hg⟩
  have HG1 : Hid (w0.grownBy w1 none) := Lib.hid hg
  have m2 := (HBM.out.grown hg (by simp)).cell 0
  simp at m2
  clear hg hp0 m0 m1
  go_wp2_with fail
  go_loopg [5, 15] W.length (fun g s5 s15 wx => ∃ j : Nat, j + g = W.length ∧ s15 = .int .i64 j ∧ Hid (Acc encU w0.heap.size 22 (fun g => w0.heap.size ≤ g) wx s5 (secL p.Q W B j) ∧ w0.grownBy wx none))
  case atStart => exact ⟨0, by omega, rfl, Lib.hid ⟨by simpa [secL] using Acc.nil _ _ _ _ _, HG1.out⟩⟩
  case round =>
    obtain ⟨j, hj, rfl, HX⟩ := hrel
    cases gk with
    | zero =>
      obtain rfl : j = W.length := by omega
      have HR : Hid (Sl encU (fun g => w.heap.size ≤ g) wr u5 (secL p.Q W B W.length) ∧ w.grownBy wr none) := Lib.hid ⟨HX.out.1.sl.more fun g _ h => Nat.le_trans HG0.out.size h, HG0.out.trans HX.out.2⟩
      clear HX
      go_wp2
      go_ret
      exact ⟨_, rfl, HR.out.1, HR.out.2⟩
    | succ m =>
      have hjn : (j : Int) < (W.length : Int) := by omega
      have hjN : j < W.length := by omega
      have hjB : j < B.length := by have := HWL.out.2; omega
      have hjBI : (j : Int) < (B.length : Int) := by omega
      obtain ⟨hacc, hg⟩ := HX.out
      obtain ⟨gW, oW, cW, u, e, _, _, hcu, hsu⟩ := (HW.out.kept hg).atS hjN
      injection e with e1 e2 e3
      subst e1 e3
      obtain ⟨gB, oB, cB', e, _, _, hcb0, hib⟩ := HV.out.atI hjB
      injection e with e4 e5 e6
      subst e4 e6
      obtain ⟨Ar, cr, er, _, _⟩ := hsu.form
      have hrl := HRL.out _ (List.getElem_mem hjN)
      have HSN := Lib.hid (secL_succ p.Q W B j)
      have HLN := Lib.hid (secL_len p.Q W B p.D.toNat HRL.out j (by omega))
      rw [List.getElem?_eq_getElem hjN, List.getElem?_eq_getElem hjB] at HSN
      obtain ⟨row, hrow⟩ : ∃ y, y = W[j] := ⟨_, rfl⟩
      obtain ⟨b, hb⟩ : ∃ y, y = B[j] := ⟨_, rfl⟩
      rw [← hrow] at hsu er hrl HSN
      rw [← hb] at hcb0 hib HSN
      obtain ⟨nr, hnr⟩ : ∃ y, y = row.length := ⟨_, rfl⟩
      rw [← hnr] at er hrl
      subst er
      obtain ⟨ys, hys⟩ : ∃ y, y = row.map (· % p.Q) := ⟨_, rfl⟩
      obtain ⟨z, hz⟩ : ∃ y, y = b % p.Q := ⟨_, rfl⟩
      simp only [Option.getD_some] at HSN
      rw [← hys, ← hz] at HSN
      obtain ⟨xs, hxs⟩ : ∃ y, y = secL p.Q W B j := ⟨_, rfl⟩
      rw [← hxs] at HSN HLN hacc
      have hyl : ys.length ≤ 4 := by rw [hys, List.length_map, ← hnr, hrl]; exact HDD.out
      have hxl : xs.length ≤ 1000 := by
        rw [HLN.out]
        have := HWL.out.1
        have := HDD.out
        have h4 : j * (p.D.toNat + 1) ≤ 2 * 5 := Nat.mul_le_mul (by omega) (by omega)
        omega
      obtain ⟨N, hN⟩ : ∃ y, y = wr.heap.size := ⟨_, rfl⟩
      have HSU : Hid (∀ w', w0.grownBy w' none → N ≤ w'.heap.size → ∃ Z, Sl encI Z w' (.slice Ar nr cr) row) := Lib.hid (by
        obtain ⟨gW2, oW2, cW2, u2, e', _, _, hcu2, hsu2⟩ := HW.out.atS hjN
        injection e' with e1' e2' e3'
        injection e1' with e1'
        injection e1' with e7 e8
        subst e7 e8
        have hcu3 : wr.cell? ⟨gW, oW + j, none⟩ = some u2 := cell_kept hcu2 hg (by simp)
        have hu2 : u2 = .slice Ar nr cr := by rw [hcu] at hcu3; injection hcu3 with h; exact h.symm
        intro w' hg' _
        rw [hrow, ← hu2]
        exact ⟨_, hsu2.kept hg'⟩)
      have HZ : Hid (U64 z) := Lib.hid (by rw [hz]; have h0 := mayB_pos HQ.out; have := HPO.out.Q; exact ⟨Int.emod_nonneg _ (by omega), Int.lt_trans (Int.emod_lt_of_pos _ h0) (by obtain ⟨a, b⟩ := this; omega)⟩)
      have HNU := Lib.hid (fun w' => fnum_any b p.Q w' hib HPO.out.Q HQ.out)
      rw [← hz] at HNU
      obtain ⟨Au, nu, cu, eu⟩ := hacc.sl.shape
      subst eu
      have HC0 : Hid ((secLt w0 N (.slice Au nu cu) xs ys z).C [] wr.drew) := Lib.hid ⟨hg.trans (grown_drewN' _ 1), by rw [hN]; exact Nat.le_refl _, hacc.kept (grown_drewN' _ 1)⟩
      have HLD : Hid (∀ vs w', (secLt w0 N (.slice Au nu cu) xs ys z).C vs w' → w'.cell? ⟨w.heap.size, 1, none⟩ = some (.int .u64 p.Q) ∧ w'.cell? ⟨w.heap.size + 1, 1, none⟩ = some (.slice (some ⟨gB, oB, none⟩) B.length cB) ∧ w'.cell? ⟨gB, oB + j, none⟩ = some (.int .i64 b)) := Lib.hid (fun vs w' hC => ⟨(HBP.out.grown hC.1 (by simp)).cell 1, (HBM.out.grown hC.1 (by simp)).cell 1, cell_kept hcb0 hC.1 (by simp)⟩)
      have HSZ : Hid (∀ vs w', (secLt w0 N (.slice Au nu cu) xs ys z).C vs w' → N ≤ w'.heap.size) := Lib.hid (fun vs w' hC => hC.2.1)
      have HNUM : Hid (∀ vs w', (secLt w0 N (.slice Au nu cu) xs ys z).C vs w' → Calls Tryd.prog 81 #[.int .u64 p.Q, .slice Ar nr cr] w' (Gives encU (fun g => w'.heap.size ≤ g) w' ys)) := Lib.hid (fun vs w' hC => by
        obtain ⟨Z, hZ⟩ := HSU.out w' hC.1 hC.2.1
        rw [hys]
        exact numbers_any p.Q _ row Z w' hZ HPO.out.Q HQ.out (by have := HDD.out; omega))
      have hON : Hid (∀ g, (Value.slice Au nu cu).ownBlock = some g → g < N) := Lib.hid (fun g e => by rw [hN]; exact (hacc.lt g e).2)
      have HLB1 : Hid ((xs.length + ys.length) * 8 ≤ 140737488355328) := Lib.hid (by omega)
      have HLB2 : Hid (((xs ++ ys).length + 1) * 8 ≤ 140737488355328) := Lib.hid (by rw [List.length_append]; omega)
      have HSTEP : Hid (∀ (w' w3 : World) (v : Value) {l : List Int}, w0.grownBy w' none → Acc encU w0.heap.size 22 (fun g => w0.heap.size ≤ g) w' v l → w'.grownBy w3 v.ownBlock → w0.grownBy w3 none) := Lib.hid (fun w' w3 v l h1 h3 hg => acc_step h1 h3 hg)
      have hcu' := hcu
      clear hacc hg HX hsu hcb0 hib hrow hb hnr hys hz hxs hyl hxl e2 e5 hN hrl HLN
      go_upto_region 7 with (fail)
      clear hcu hcu'
      generalize hnB : B.length = nB at *
      refine wp_region_late (secLt w0 N (.slice Au nu cu) xs ys z) [5, 15] 16 (by kernel_rfl) (by kernel_rfl) (by kernel_rfl) HC0.out ?_
      -- op 0 (slot 20): move
      refine LateR.mono (Qv.eq (.slice Au nu cu)) [] (by kernel_rfl) (by rfl) rfl (fun vs w' hC => ?_) ?_
      · refine askl_do rfl fun K hK => ?_
        go_simp
        exact hK _ _ rfl ⟨rfl, World.grownBy.refl _ none⟩
      -- op 1 (slot 21): fieldAddr
      refine LateR.mono (Qv.eq (.pointer (some ⟨w.heap.size, 1, none⟩))) [] (by kernel_rfl) (by rfl) rfl (fun vs w' hC => ?_) ?_
      · refine askl_do rfl fun K hK => ?_
        go_simp
        exact hK _ _ rfl ⟨rfl, World.grownBy.refl _ none⟩
      -- op 2 (slot 22): load
      refine LateR.mono (Qv.eq (.int .u64 p.Q)) [(1, 21)] (by kernel_rfl) (by rfl) rfl (fun vs w' hC => ?_) ?_
      · rintro _ rfl
        refine askl_do rfl fun K hK => ?_
        obtain ⟨q0, q1, q2⟩ := HLD.out vs w' hC
        go_simp
        exact hK _ _ rfl ⟨rfl, World.grownBy.refl _ none⟩
      -- op 3 (slot 23): move
      refine LateR.mono (Qv.eq (.slice Ar nr cr)) [] (by kernel_rfl) (by rfl) rfl (fun vs w' hC => ?_) ?_
      · refine askl_do rfl fun K hK => ?_
        go_simp
        exact hK _ _ rfl ⟨rfl, World.grownBy.refl _ none⟩
      -- op 4 (slot 24): call
      refine LateR.mono (secN N ys) [(2, 22), (3, 23)] (by kernel_rfl) (by rfl) rfl (fun vs w' hC => ?_) ?_
      · rintro _ rfl
        rintro _ rfl
        refine askl_do rfl fun K hK => ?_
        go_simp
        have hsz := HSZ.out vs w' hC
        refine (HNUM.out vs w' hC).mono ?_
        rintro e w3 ⟨v3, rfl, hs3, hg3⟩
        exact hK _ _ rfl ⟨fun _ => hs3.more fun g _ hg => Nat.le_trans hsz hg, hg3⟩
      -- op 5 (slot 25): call
      refine LateR.turn 0 [(0, 20), (4, 24)] (by kernel_rfl) rfl (fun vs w' hl hC => ?_) ?_
      · rintro _ rfl
        intro x24 h24
        have h24 : vs = [] → Sl encU (fun g => N ≤ g) w' x24 ys := h24
        refine askl_do rfl fun K hK => ?_
        obtain rfl : vs = [] := List.eq_nil_of_length_eq_zero hl
        obtain ⟨g1, g2, g3⟩ := hC
        obtain ⟨A24, c24, rfl, _, _⟩ := (h24 rfl).form
        refine apps_core (E := encU) el_u64 g3 (h24 rfl) (fun _ _ h => h) HLB1.out g1.size (fun g hg => Nat.le_trans g1.size hg) (.tmp 20) (.tmp 24) rfl rfl rfl ?_
        intro v3 w3 ha hgr hm
        exact hK _ _ rfl ⟨hgr, HSTEP.out w' w3 (.slice Au nu cu) g1 g3 hgr, Nat.le_trans g2 hgr.size, ha⟩
      -- op 6 (slot 26): fieldAddr
      refine LateR.mono (Qv.eq (.pointer (some ⟨w.heap.size + 1, 1, none⟩))) [] (by kernel_rfl) (by rfl) rfl (fun vs w' hC => ?_) ?_
      · refine askl_do rfl fun K hK => ?_
        go_simp
        exact hK _ _ rfl ⟨rfl, World.grownBy.refl _ none⟩
      -- op 7 (slot 27): load
      refine LateR.mono (Qv.eq (.slice (some ⟨gB, oB, none⟩) nB cB)) [(6, 26)] (by kernel_rfl) (by rfl) rfl (fun vs w' hC => ?_) ?_
      · rintro _ rfl
        refine askl_do rfl fun K hK => ?_
        obtain ⟨q0, q1, q2⟩ := HLD.out vs w' hC
        go_simp
        exact hK _ _ rfl ⟨rfl, World.grownBy.refl _ none⟩
      -- op 8 (slot 28): move
      refine LateR.mono (Qv.eq (.int .i64 (j : Int))) [] (by kernel_rfl) (by rfl) rfl (fun vs w' hC => ?_) ?_
      · refine askl_do rfl fun K hK => ?_
        go_simp
        exact hK _ _ rfl ⟨rfl, World.grownBy.refl _ none⟩
      -- op 9 (slot 29): indexAddr
      refine LateR.mono (Qv.eq (.pointer (some ⟨gB, oB + j, none⟩))) [(7, 27), (8, 28)] (by kernel_rfl) (by rfl) rfl (fun vs w' hC => ?_) ?_
      · rintro _ rfl
        rintro _ rfl
        refine askl_do rfl fun K hK => ?_
        go_simp
        exact hK _ _ rfl ⟨rfl, World.grownBy.refl _ none⟩
      -- op 10 (slot 30): load
      refine LateR.mono (Qv.eq (.int .i64 b)) [(9, 29)] (by kernel_rfl) (by rfl) rfl (fun vs w' hC => ?_) ?_
      · rintro _ rfl
        refine askl_do rfl fun K hK => ?_
        obtain ⟨q0, q1, q2⟩ := HLD.out vs w' hC
        go_simp
        exact hK _ _ rfl ⟨rfl, World.grownBy.refl _ none⟩
      -- op 11 (slot 31): fieldAddr
      refine LateR.mono (Qv.eq (.pointer (some ⟨w.heap.size, 1, none⟩))) [] (by kernel_rfl) (by rfl) rfl (fun vs w' hC => ?_) ?_
      · refine askl_do rfl fun K hK => ?_
        go_simp
        exact hK _ _ rfl ⟨rfl, World.grownBy.refl _ none⟩
      -- op 12 (slot 32): load
      refine LateR.mono (Qv.eq (.int .u64 p.Q)) [(11, 31)] (by kernel_rfl) (by rfl) rfl (fun vs w' hC => ?_) ?_
      · rintro _ rfl
        refine askl_do rfl fun K hK => ?_
        obtain ⟨q0, q1, q2⟩ := HLD.out vs w' hC
        go_simp
        exact hK _ _ rfl ⟨rfl, World.grownBy.refl _ none⟩
      -- op 13 (slot 33): call
      refine LateR.mono (Qv.eq (.int .u64 z)) [(10, 30), (12, 32)] (by kernel_rfl) (by rfl) rfl (fun vs w' hC => ?_) ?_
      · rintro _ rfl
        rintro _ rfl
        refine askl_do rfl fun K hK => ?_
        go_simp
        refine (HNU.out w').mono ?_
        rintro e w3 ⟨rfl, hg3⟩
        exact hK _ _ rfl ⟨rfl, hg3⟩
      -- op 14 (slot 34): buildSlice
      refine LateR.mono (secZ N z hON.out) [(13, 33)] (by kernel_rfl) (by rfl) rfl (fun vs w' hC => ?_) ?_
      · rintro _ rfl
        refine askl_do rfl fun K hK => ?_
        have hsz := HSZ.out vs w' hC
        go_simp
        exact hK _ _ rfl ⟨fun _ => ⟨_, rfl, hsz, Bk.new w' _ _⟩, World.grownBy_alloc w' _ none⟩
      -- op 15 (slot 35): call
      refine LateR.turn 1 [(5, 25), (14, 34)] (by kernel_rfl) rfl (fun vs w' hl hC => ?_) ?_
      · intro x25 h25
        intro x34 h34
        have h34 : vs.length ≤ 1 → BlkQ N 22 (.int .u64 z) x34 w' := h34
        refine askl_do rfl fun K hK => ?_
        obtain ⟨u, rfl⟩ : ∃ u, vs = [u] := List.length_eq_one_iff.1 hl
        obtain ⟨g1, g2, g3⟩ := hC
        obtain rfl : u = x25 := by have h : some u = some x25 := h25; injection h
        obtain ⟨b34, e34, hb34, hk34⟩ := h34 (Nat.le_refl 1)
        subst e34
        refine pushAt_core (E := encU) el_u64 g3 ⟨rfl, HZ.out⟩ (Bk.one hk34) HLB2.out g1.size (fun g hg => Nat.le_trans g1.size hg) (.tmp 25) (.tmp 34) rfl rfl rfl ?_
        intro v3 w3 ha hgr hm
        exact hK _ _ rfl ⟨trivial, HSTEP.out w' w3 u g1 g3 hgr, Nat.le_trans g2 hgr.size, ha⟩
      intro vs w5 hvl hC5
      obtain ⟨u, u2, rfl⟩ : ∃ u u2, vs = [u, u2] := by
        match vs, hvl with
        | [u, u2], _ => exact ⟨u, u2, rfl⟩
      intro y0 k0 y1 k1 y2 k2 y3 k3 y4 k4 y5 k5 y6 k6 y7 k7 y8 k8 y9 k9 y10 k10 y11 k11 y12 k12 y13 k13 y14 k14 y15 k15
      show wpList Tryd.prog _ _ _ _ w5
      simp only [Act.put, List.setIfInBounds_toArray, List.set_cons_zero, List.set_cons_succ]
      have e15 : y15 = u2 := by have : some u2 = some y15 := k15; injection this with this; exact this.symm
      subst e15
      have HFIN : Hid (Acc encU w0.heap.size 22 (fun g => w0.heap.size ≤ g) w5 y15 (secL p.Q W B (j + 1)) ∧ w0.grownBy w5 none) := Lib.hid ⟨by rw [HSN.out]; exact hC5.2.2, hC5.1⟩
      clear hC5 k0 k1 k2 k3 k4 k5 k6 k7 k8 k9 k10 k11 k12 k13 k14 k15 HLD HSZ HC0 HNUM HSU HNU
      go_wp2_with fail
      go_roundg m
      case measure => omega
      case rel => exact ⟨j + 1, by omega, by go_num, HFIN⟩
end Go.Proofs.YtmjdpmfcbeaecaaDoor

namespace Go.Proofs.YtmjdpmfcbeaecaaDoor
open Go

section
variable {P : Program} {Q : Exit → Act → World → Prop} {a0 : Act} {w0 : World}
def upTo (k m : Nat) : Array Bool := Array.replicate k true ++ Array.replicate (m - k) false
theorem upTo_at {k m i : Nat} (hk : k ≤ m) (d : Bool) : (upTo k m).getD i d = if i < k then true else if i < m then false else d := by
  unfold upTo
  rw [Array.getD_eq_getD_getElem?, Array.getElem?_append]
  by_cases h1 : i < k
  · simp [h1]
  · by_cases h2 : i < m
    · simp [h1, h2, show i - k < m - k by omega]
    · simp [h1, h2, show ¬ i - k < m - k by omega]
theorem upTo_set {k m : Nat} (hk : k < m) : (upTo k m).setIfInBounds k true = upTo (k + 1) m := by
  refine Array.ext (by simp [upTo]; omega) fun i h1 h2 => ?_
  have e1 := upTo_at (k := k + 1) (m := m) (i := i) (by omega) false
  have e2 := upTo_at (k := k) (m := m) (i := i) (by omega) false
  have h3 : i < (upTo k m).size := by simpa using h1
  rw [Array.getElem_setIfInBounds h3]
  rw [Array.getD_eq_getD_getElem?, Array.getElem?_eq_getElem h2] at e1
  rw [Array.getD_eq_getD_getElem?, Array.getElem?_eq_getElem h3] at e2
  simp only [Option.getD_some] at e1 e2
  rw [e1]
  split
  · rename_i h
    subst h
    simp
  · rename_i h
    rw [e2]
    by_cases h4 : i < k
    · simp [h4, show i < k + 1 by omega]
    · simp [h4, show ¬ i < k + 1 by omega]
def seqmB (ops : Array Oper) (n sz : Nat) : Bool := Region.noSelect ops && decide (n ≤ ops.size) && topoB ops n && distB ops n sz
theorem wpList_monoR {l : List Oper} (n : Nat) (hB : seqmB l.toArray n a0.tmps.size = true)
    (h : MonoR P l.toArray n a0 w0 (fun Vs => ∀ w, w0.grownBy w none → FinN P l.toArray Q w Vs l a0) n [] l) : wpList P l.toArray Q l a0 w0 := by
  obtain ⟨hM', hn'⟩ := MonoN.cut (MonoR.up h)
  simp only [seqmB, Bool.and_eq_true, decide_eq_true_eq] at hB
  obtain ⟨⟨⟨hsel, hn⟩, htopo⟩, hdist⟩ := hB
  obtain ⟨Vs, hVl, hF, hO⟩ := Mono.out hM'
  simp only [List.reverse_nil, List.nil_append, List.length_nil, Nat.zero_add] at hF hO
  have htl : (l.take n).length = n := by simp; omega
  have hVn : Vs.length = n := hVl.trans htl
  have hsz : l.toArray.size = l.length := by simp
  have key : ∀ m k a w, k + m = n → MInv l.toArray n a0 w0 Vs (upTo k l.toArray.size) a w → wpList P l.toArray Q (l.drop k) a w := by
    intro m
    induction m with
    | zero =>
      intro k a w hk inv
      obtain rfl : k = n := by omega
      have hk : ∀ (q : Nat) (V : Pv) (o : Oper), Vs[q]? = some V → (l.take k)[q]? = some o → V.p (match o.dst with | some d => a.eval (.tmp d) | none => undef) w := by
        intro q V o hv ho
        have hqn : q < k := by have := (List.getElem?_eq_some_iff.1 hv).1; omega
        have h1 := inv.known q V (by rw [upTo_at hn]; simp [hqn]) hv
        have h2 : dstAt l.toArray q = o.dst := by
          have : l[q]? = some o := by rw [List.getElem?_take, if_pos hqn] at ho; exact ho
          simp [dstAt, this]
        rw [h2] at h1
        have h3 : (match o.dst with | some d => a.eval (.tmp d) | none => undef) = valOf o.dst a := by cases o.dst <;> rfl
        rw [h3]
        exact h1
      have hcut := FinN.cut (by rw [hVn]; omega) (hF w inv.grown)
      rw [hVn] at hcut
      have hfin := Fin'.all hVl hk hcut
      have hon : onto a ((l.take k).map (·.dst)) a0 = a := by
        refine act_ext (fun t => onto_at a t _ _ inv.tsize.symm ?_) ((onto_defers _ _ _).trans inv.defers.symm)
        by_cases ht : some t ∈ (l.take k).map (·.dst)
        · exact .inl ht
        · refine .inr (inv.rest t fun j hj _ e => ht ?_).symm
          have hjl : j < l.length := by omega
          have : l[j].dst = some t := by simpa [dstAt, hjl] using e
          exact List.mem_map.2 ⟨l[j], List.mem_iff_getElem?.2 ⟨j, by rw [List.getElem?_take, if_pos hj, List.getElem?_eq_getElem hjl]⟩, this⟩
      rw [hon] at hfin
      exact hfin
    | succ m ih =>
      intro k a w hk inv
      have hkn : k < n := by omega
      have hkl : k < l.length := by omega
      have ho : l.toArray[k]? = some l[k] := by simp [hkl]
      have hnext : (l.take n)[k]? = some l[k] := by rw [List.getElem?_take, if_pos hkn, List.getElem?_eq_getElem hkl]
      obtain ⟨V, js, hV, hchk, hask⟩ := hO k l[k] hnext
      simp only [Bool.and_eq_true] at hchk
      obtain ⟨hpair, hlook⟩ := hchk
      have hu : (upTo k l.toArray.size).getD k true = false := by rw [upTo_at (by omega)]; simp [hkl]
      have hed : ∀ e ∈ l[k].after, Region.binds .any e = true → (upTo k l.toArray.size).getD e.on false = true := fun e he hb => by
        have ht := list_all_range htopo hkn
        simp only [ho, Option.map_some, Option.getD_some] at ht
        have := Array.all_eq_true_iff_forall_mem.1 ht e he
        rw [upTo_at (by omega)]
        simp only [hb, Bool.not_true, Bool.false_or, decide_eq_true_eq] at this
        simp [this]
      have hi : k ∈ Region.ready .any l.toArray (upTo k l.toArray.size) := mem_ready.2 ⟨hu, _, ho, hed⟩
      have hdst : ∀ d, l[k].dst = some d → d < a.tmps.size := by
        intro d hd
        have := list_all_range hdist hkn
        have h2 : dstAt l.toArray k = some d := by simp only [dstAt, ho]; exact hd
        rw [h2] at this
        simp only [Bool.and_eq_true, decide_eq_true_eq] at this
        rw [inv.tsize]
        exact this.1
      have hjs : ∀ x : Nat × Tmp, x ∈ js → dstAt l.toArray x.1 = some x.2 ∧ (upTo k l.toArray.size).getD x.1 false = true ∧ x.1 < k := by
        intro x hx
        have := List.all_eq_true.1 hpair x hx
        simp only [Bool.and_eq_true, beq_iff_eq] at this
        obtain ⟨oj, hoj, e, he, hb, hon⟩ := Region.waitsFor_spec this.2
        have hoo : l[k] = oj := Option.some.inj (ho.symm.trans hoj)
        subst hoo
        have ht := list_all_range htopo hkn
        simp only [ho, Option.map_some, Option.getD_some] at ht
        have ht := Array.all_eq_true_iff_forall_mem.1 ht e he
        simp only [hb, Bool.not_true, Bool.false_or, decide_eq_true_eq] at ht
        exact ⟨this.1, by rw [← hon]; exact hed e he hb, by rw [← hon]; exact ht⟩
      have hA := hask w inv.grown
      have hW := Ask.all (b := a) (fun x hx => by
        obtain ⟨h1, h2, h3⟩ := hjs x hx
        have hxl : x.1 < Vs.length := by omega
        have h4 : Vs[x.1]? = some Vs[x.1] := List.getElem?_eq_getElem hxl
        have h5 := inv.known x.1 _ h2 h4
        rw [h1] at h5
        have : (Vs.take k).getD x.1 Pv.any = Vs[x.1] := by
          rw [List.getD_eq_getElem?_getD, List.getElem?_take, if_pos h3, h4]
          rfl
        rw [this]
        exact h5) hA
      have hop := told_op (Q := Q) (ops := l.toArray) (a0 := a0) (a := a) (Region.noSelect_spec hsel k l[k] · · ho) hdst ((onto_size _ _ _).trans inv.tsize.symm) (fun t ht => by
        refine onto_at a t _ _ inv.tsize.symm ?_
        have h1 : (l[k].looksAt l.toArray).all (fun t => js.any (·.2 == t) || keptB l.toArray n k t) = true := by
          simpa only [lookB, ho, Option.map_some, Option.getD_some] using hlook
        have h2 := List.all_eq_true.1 h1 t ht
        simp only [Bool.or_eq_true] at h2
        rcases h2 with h2 | h2
        · left
          obtain ⟨x, hx, hxt⟩ := List.any_eq_true.1 h2
          exact List.mem_map.2 ⟨x, hx, by rw [beq_iff_eq.1 hxt]⟩
        · right
          refine (inv.rest t fun j hj hD e => ?_).symm
          have h3 := list_all_range h2 hj
          simp only [Bool.or_eq_true, bne_iff_ne, ne_eq, beq_iff_eq] at h3
          rcases h3 with (h3 | h3) | h3
          · exact h3 e
          · obtain ⟨oj, hoj, e', he', hb', hon⟩ := Region.waitsFor_spec h3
            have := inv.head.closed j oj hoj hD e' he' hb'
            rw [hon, getD_both hu] at this
            cases this
          · subst h3
            rw [getD_both hu] at hD
            cases hD) ho (onto_defers _ _ _) hW
      have hstep : wpOp P l.toArray Q k (wpList P l.toArray Q (l.drop (k + 1))) a w := wpOp_mono (fun a' w' hk' => by
        obtain ⟨v, ha, hv, hg⟩ := hk'
        have := minv_step inv hdist hi hkn ho hV (by omega) ha hv hg
        rw [upTo_set (by omega)] at this
        exact ih (k + 1) a' w' (by omega) this) hop
      rw [List.drop_eq_getElem_cons hkl]
      unfold wpOp at hstep
      simp only [ho] at hstep
      exact hstep
  refine key n 0 a0 w0 (by omega) ⟨⟨by simp [upTo], fun j oj hj hD => by rw [upTo_at (by omega)] at hD; simp at hD, fun t _ ht => by rw [upTo_at (by omega)]; simp at ht; simp [ht]⟩, World.grownBy.refl w0 none, rfl, rfl, fun _ _ => rfl, fun j V hD => by rw [upTo_at (by omega)] at hD; simp at hD⟩
theorem wp_region_seqm {l : List Oper} {id : Nat} (n : Nat) (hB : seqmB l.toArray n a0.tmps.size = true)
    (h : MonoR P l.toArray n a0 w0 (fun Vs => ∀ w, w0.grownBy w none → FinN P l.toArray Q w Vs l a0) n [] l) : (Code.region id l.toArray false).wp P Q a0 w0 :=
  wp_region_lit (wpList_monoR n hB h)
end
end Go.Proofs.YtmjdpmfcbeaecaaDoor

namespace Go.Proofs.YtmjdpmfcbeaecaaDoor
open Go Go.RowKit

def Pv.tup {α : Type} (E : Enc α) (xs : List α) (n : Int) : Pv := ⟨fun v w => ∃ u, v = .tuple #[u, .int .i64 n] ∧ Sl E TT w u xs, fun ⟨u, e, h⟩ hg => ⟨u, e, h.kept hg⟩⟩
def Pv.model (W : List (List Int)) (B : List Int) : Pv := ⟨fun v w => ∃ a b, v = .agg #[a, b] ∧ Sl (encS encI) TT w a W ∧ Sl encI TT w b B, fun ⟨a, b, e, h, k⟩ hg => ⟨a, b, e, h.kept hg, k.kept hg⟩⟩
def Pv.mtup (W : List (List Int)) (B : List Int) (n : Int) : Pv := ⟨fun v w => ∃ a b, v = .tuple #[.agg #[a, b], .int .i64 n] ∧ Sl (encS encI) TT w a W ∧ Sl encI TT w b B, fun ⟨a, b, e, h, k⟩ hg => ⟨a, b, e, h.kept hg, k.kept hg⟩⟩
def Pv.dealt (d : Int) (l : List (List Int)) : Pv := ⟨fun v w => ∃ u, v = .agg #[.int .i64 d, u] ∧ Sl (encS encU) TT w u l, fun ⟨u, e, h⟩ hg => ⟨u, e, h.kept hg⟩⟩
end Go.Proofs.YtmjdpmfcbeaecaaDoor
