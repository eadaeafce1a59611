/- consistorylaw20.ShareFits: true for every input: the row's statement, and its tied card, out of the law's contract. -/
import Derived.Test.YtmjdpmfcbeaecaaDoorZ4
import Derived.Deep.RegionHeld3
import Derived.Deep.DeepCutAuto
import Derived.Deep.Quiet
import Derived.Deep.QuietTactic
import Derived.BigQuiet
import Derived.StillTail
import Derived.ProofKit
import Derived.Test.YtmjdpmfcbeaecaaDoorCards
import Derived.Test.YtmjdpmfcbeaecaaDoorTie
import Derived.WalkKit
import Derived.OpenShut
import Derived.ChangeOld
import Derived.Below
import Derived.Deep.DeepHandedRow
import Derived.Lib.LaidTab
import Derived.Stop.LaidErr
namespace Go.Proofs.YtmjdpmfcbeaecaaDoor
open Go.RowKit

/-- Params, and members with their pairs, as a statement has them. -/
structure MemOk (p : Par) (at_ : List Int) (l : List (List (Int × Int))) : Prop where
  may : mayP p = true
  places : Places p.N at_
  some : 0 < at_.length
  len : at_.length = l.length
  rows : ∀ x ∈ l, (x.length : Int) = secretsI p
theorem nodup_le : ∀ (l s : List Int), l.Nodup → (∀ x ∈ l, x ∈ s) → l.length ≤ s.length
  | [], _, _, _ => Nat.zero_le _
  | x :: l, s, hn, hs => by
    obtain ⟨h1, h2⟩ := List.nodup_cons.1 hn
    have hx := hs x (by simp)
    have := nodup_le l (s.erase x) h2 fun y hy => (List.mem_erase_of_ne (fun e => h1 (by rw [← e]; exact hy))).2 (hs y (by simp [hy]))
    rw [List.length_erase_of_mem hx] at this
    have h3 := List.length_pos_of_mem hx
    simp only [List.length_cons]
    omega
theorem Places.len {n : Int} {xs : List Int} (h : Places n xs) (hn : n ≤ 7) : xs.length ≤ 7 := by
  refine nodup_le xs [1, 2, 3, 4, 5, 6, 7] h.2 fun x hx => ?_
  · skip
    have := h.1 x hx
    have : x = 1 ∨ x = 2 ∨ x = 3 ∨ x = 4 ∨ x = 5 ∨ x = 6 ∨ x = 7 := by omega
    rcases this with rfl | rfl | rfl | rfl | rfl | rfl | rfl <;> simp
theorem members_of {n : Int} {xs : List Int} (h : Places n xs) (hn : n ≤ 7) (h0 : 0 < xs.length) : membersB xs = true := by
  simp only [membersB, Bool.and_eq_true, decide_eq_true_eq, Bool.not_eq_true']
  refine ⟨h0, List.any_eq_false.2 fun x hx => ?_⟩
  have := h.1 x hx
  simp [memBad]
  omega
theorem sum_good {p : Par} {at_ : List Int} {l : List (List (Int × Int))} (h : MemOk p at_ l) : sumE p at_ l = 0 := by
  obtain ⟨hq, hP, ha, n1, n2, n3, t1, t2, t3, hs, k1, d1⟩ := may_apart h.may
  unfold sumE
  have ho : l.any (fun x => oddB p x) = false := List.any_eq_false.2 fun x hx => by simp [oddB, h.rows x hx]
  rw [hs, members_of h.places n2 h.some, ho, if_pos (by simp [h.len])]
  exact werr_zero hq ha n3 h.places (by have := h.places.len n2; omega) 0
theorem sum_reverse {p : Par} {at_ : List Int} {l : List (List (Int × Int))} (h : MemOk p at_ l) : sumE p at_.reverse l.reverse = 0 ∧ sumL p at_.reverse l.reverse = sumL p at_ l := by
  obtain ⟨hq, hP, ha, n1, n2, n3, t1, t2, t3, hs, k1, d1⟩ := may_apart h.may
  have hr : MemOk p at_.reverse l.reverse := ⟨h.may, h.places.rev, by simpa using h.some, by simpa using h.len, fun x hx => h.rows x (List.mem_reverse.1 hx)⟩
  refine ⟨sum_good hr, ?_⟩
  unfold sumL
  rw [if_pos (sum_good h), if_pos (sum_good hr)]
  refine List.map_congr_left fun s _ => ?_
  rw [wlist_reverse hq ha n3 h.places (by have := h.places.len n2; omega) 0, List.map_reverse]
  refine comeP_reverse _ hq _ _ ?_
  rw [List.length_map, wlist_length hq ha n3 h.places (by have := h.places.len n2; omega) 0, h.len]
theorem sum_one {p : Par} (hm : mayP p = true) (x : Int) (hx : 1 ≤ x ∧ x ≤ p.N) (th : List (Int × Int)) (ht : (th.length : Int) = secretsI p) : sumE p [x] [th] = 0 ∧ sumL p [x] [th] = th.map fun y => (y.1 % p.Q, y.2 % p.Q) := by
  obtain ⟨hq, hP, ha, n1, n2, n3, t1, t2, t3, hs, k1, d1⟩ := may_apart hm
  have h : MemOk p [x] [th] := ⟨hm, ⟨fun y hy => by rw [List.mem_singleton.1 hy]; exact hx, by simp⟩, by simp, rfl, fun y hy => by rw [List.mem_singleton.1 hy]; exact ht⟩
  have h0 := mayB_pos hq
  refine ⟨sum_good h, ?_⟩
  unfold sumL
  rw [if_pos (sum_good h), wlist_one hq (by omega) ha n3 x hx 0]
  refine List.ext_getElem (by simp; omega) fun k k1 k2 => ?_
  simp only [List.length_map, List.length_range] at k1
  have hk : k < th.length := by omega
  rw [List.getElem_map, List.getElem_range, List.getElem_map]
  show comeP p.Q [th[k]?.getD (0, 0)] [1] (0, 0) = _
  rw [List.getElem?_eq_getElem hk, Option.getD_some, comeP_eq _ hq _ _ _ rfl (Int.le_refl 0) h0 (Int.le_refl 0) h0]
  simp [dotZ]
/-- Dealers and what they dealt, as a statement has them. -/
structure Deals (p : Par) (ds : List (Int × List (List Int))) : Prop where
  may : mayP p = true
  places : Places p.N (ds.map (·.1))
  some : 0 < ds.length
  cols : ∀ d ∈ ds, (d.2.length : Int) = secretsI p ∧ ∀ c ∈ d.2, (c.length : Int) = p.T + 1
theorem coms_good {p : Par} {ds : List (Int × List (List Int))} (h : Deals p ds) : comsE p ds = 0 := by
  obtain ⟨hq, hP, ha, n1, n2, n3, t1, t2, t3, hs, k1, d1⟩ := may_apart h.may
  have hw : wrap64 (p.T + 1) = p.T + 1 := wrap64_small (by omega)
  have ho : ds.any (fun d => !((d.2.length : Int) == secretsI p) || d.2.any (shortB p)) = false := List.any_eq_false.2 fun d hd => by
    obtain ⟨c1, c2⟩ := h.cols d hd
    have : d.2.any (shortB p) = false := List.any_eq_false.2 fun c hc => by simp [shortB, hw, c2 c hc]
    simp [c1, this]
  unfold comsE
  rw [hs, ho, members_of h.places n2 (by simpa using h.some), if_pos (by simp; omega)]
  exact werr_zero hq ha n3 h.places (by have := h.places.len n2; omega) 0
theorem Deals.rev {p : Par} {ds : List (Int × List (List Int))} (h : Deals p ds) : Deals p ds.reverse := ⟨h.may, by rw [List.map_reverse]; exact h.places.rev, by simpa using h.some, fun d hd => h.cols d (List.mem_reverse.1 hd)⟩
theorem coms_reverse {p : Par} {ds : List (Int × List (List Int))} (h : Deals p ds) : comsE p ds.reverse = 0 ∧ comsL p ds.reverse = comsL p ds := by
  obtain ⟨hq, hP, ha, n1, n2, n3, t1, t2, t3, hs, k1, d1⟩ := may_apart h.may
  refine ⟨coms_good h.rev, ?_⟩
  have hl : (ds.map (·.1)).length ≤ 1024 := by have := h.places.len n2; omega
  unfold comsL
  rw [if_pos (coms_good h), if_pos (coms_good h.rev)]
  refine List.map_congr_left fun s _ => List.map_congr_left fun j _ => ?_
  rw [List.map_reverse, List.map_reverse, wlist_reverse hq ha n3 h.places hl 0]
  refine comeU_reverse _ hP _ _ _ ?_ (times_nil_bd _ hP).1 (times_nil_bd _ hP).2
  rw [List.length_map, wlist_length hq ha n3 h.places hl 0, List.length_map]
theorem coms_one {p : Par} (x : Int) (col : List (List Int)) (h : Deals p [(x, col)]) (hb : ∀ c ∈ col, ∀ y ∈ c, 0 ≤ y ∧ y < p.P) : comsE p [(x, col)] = 0 ∧ comsL p [(x, col)] = col := by
  obtain ⟨hq, hP, ha, n1, n2, n3, t1, t2, t3, hs, k1, d1⟩ := may_apart h.may
  refine ⟨coms_good h, ?_⟩
  obtain ⟨c1, c2⟩ := h.cols _ (List.mem_singleton.2 rfl)
  have hx := h.places.1 x (by simp)
  unfold comsL
  rw [if_pos (coms_good h)]
  show (List.range (secretsI p).toNat).map (fun s => (List.range (p.T + 1).toNat).map fun j => comeU p.P [(col[s]?.getD [])[j]?.getD 0] (wList p.Q [x] 0) (timesI p.P [])) = col
  rw [wlist_one hq (by omega) ha n3 x hx 0]
  refine List.ext_getElem (by simp at c1 ⊢; omega) fun s s1 s2 => ?_
  rw [List.getElem_map, List.getElem_range, List.getElem?_eq_getElem s2, Option.getD_some]
  have hc := c2 _ (List.getElem_mem s2)
  refine List.ext_getElem (by simp at hc ⊢; omega) fun j j1 j2 => ?_
  rw [List.getElem_map, List.getElem_range, List.getElem?_eq_getElem j2, Option.getD_some, comeU_eq _ hP [col[s][j]] [1] _ rfl (times_nil_bd _ hP).1 (times_nil_bd _ hP).2, times_nil_eq _ hP]
  obtain ⟨b1, b2⟩ := hb _ (List.getElem_mem s2) _ (List.getElem_mem j2)
  show 1 % p.P * (col[s][j] ^ 1 * 1) % p.P = col[s][j]
  rw [Int.pow_succ, Int.pow_zero, Int.one_mul, Int.mul_one]
  have : Cg p.P (1 % p.P * col[s][j]) col[s][j] := ((Cg.mod p.P 1).mul_right _).trans (Cg.of_eq (Int.one_mul _))
  unfold Cg at this
  rw [this]
  exact Int.emod_eq_of_lt b1 b2
end Go.Proofs.YtmjdpmfcbeaecaaDoor

namespace Go.Proofs.YtmjdpmfcbeaecaaDoor

/-- The value of a polynomial at i. -/
def evZ (i : Int) : List Int → Int
  | [] => 0
  | x :: l => x + i * evZ i l
theorem valGo_ev {Q i : Int} (hQ : mayB Q = true) : ∀ (l : List (Int × Int)) (v : Int × Int) (e : Int), 0 ≤ v.1 → v.1 < Q → 0 ≤ v.2 → v.2 < Q → valGo Q i l v e = ((v.1 + e * evZ i (l.map (·.1))) % Q, (v.2 + e * evZ i (l.map (·.2))) % Q)
  | [], v, e, h1, h2, h3, h4 => by
    show v = ((v.1 + e * 0) % Q, (v.2 + e * 0) % Q)
    rw [Int.mul_zero, Int.add_zero, Int.add_zero, Int.emod_eq_of_lt h1 h2, Int.emod_eq_of_lt h3 h4]
  | y :: l, v, e, _, _, _, _ => by
    show valGo Q i l (addI v.1 (mulI y.1 e Q) Q, addI v.2 (mulI y.2 e Q) Q) (mulI e i Q) = ((v.1 + e * (y.1 + i * evZ i (l.map (·.1)))) % Q, (v.2 + e * (y.2 + i * evZ i (l.map (·.2)))) % Q)
    rw [valGo_ev hQ l _ _ (addI_bd _ _ _ hQ).1 (addI_bd _ _ _ hQ).2 (addI_bd _ _ _ hQ).1 (addI_bd _ _ _ hQ).2]
    have key : ∀ (s z d : Int), (addI s (mulI z e Q) Q + mulI e i Q * d) % Q = (s + e * (z + i * d)) % Q := fun s z d => by
      rw [addI_yes _ _ _ hQ, mulI_yes _ _ _ hQ, mulI_yes _ _ _ hQ]
      have h1 : Cg Q ((s + z * e % Q) % Q + e * i % Q * d) (s + e * (z + i * d)) := by
        refine (Cg.add ((Cg.mod Q _).trans (Cg.add (Cg.refl Q s) (Cg.mod Q _))) ((Cg.mod Q _).mul_right d)).trans (Cg.of_eq ?_)
        rw [Int.mul_add, Int.mul_comm z e, Int.mul_assoc, Int.add_assoc]
      exact h1
    rw [key, key]
theorem dotZ_lin {α : Type} (i : Int) (f g : α → Int) : ∀ (M : List α) (ks : List Int), dotZ (M.map fun r => f r + i * g r) ks = dotZ (M.map f) ks + i * dotZ (M.map g) ks
  | [], _ => by simp [dotZ]
  | _ :: _, [] => by simp [dotZ]
  | r :: M, k :: ks => by
    show (f r + i * g r) * k + dotZ (M.map fun r => f r + i * g r) ks = f r * k + dotZ (M.map f) ks + i * (g r * k + dotZ (M.map g) ks)
    rw [dotZ_lin i f g M ks, Int.add_mul, Int.mul_add, Int.mul_assoc]
    omega
theorem dotZ_zero {α : Type} : ∀ (M : List α) (ks : List Int), dotZ (M.map fun _ => (0 : Int)) ks = 0
  | [], _ => by simp [dotZ]
  | _ :: _, [] => by simp [dotZ]
  | r :: M, k :: ks => by
    show 0 * k + dotZ (M.map fun _ => (0 : Int)) ks = 0
    rw [dotZ_zero M ks]
    omega
theorem dotZ_cg {α : Type} {Q : Int} (f g : α → Int) (h : ∀ r, Cg Q (f r) (g r)) : ∀ (M : List α) (ks : List Int), Cg Q (dotZ (M.map f) ks) (dotZ (M.map g) ks)
  | [], _ => Cg.refl _ _
  | _ :: _, [] => Cg.refl _ _
  | r :: M, k :: ks => ((h r).mul_right k).add (dotZ_cg f g h M ks)
theorem evZ_cg {Q i : Int} {α : Type} (f g : α → Int) (h : ∀ r, Cg Q (f r) (g r)) : ∀ M : List α, Cg Q (evZ i (M.map f)) (evZ i (M.map g))
  | [] => Cg.refl _ _
  | r :: M => (h r).add ((evZ_cg f g h M).mul_left i)
/-- A sum of polynomials' values is the value of their sum. -/
theorem lin (i : Int) : ∀ (t : Nat) (M : List (List Int)) (ks : List Int), (∀ r ∈ M, r.length = t) → dotZ (M.map (evZ i)) ks = evZ i ((List.range t).map fun j => dotZ (M.map fun r => r[j]?.getD 0) ks)
  | 0, M, ks, h => by
    have e : M.map (evZ i) = M.map fun _ => (0 : Int) := List.map_congr_left fun r hr => by
      have := List.eq_nil_of_length_eq_zero (h r hr)
      subst this
      rfl
    rw [e, dotZ_zero]
    rfl
  | t + 1, M, ks, h => by
    have e1 : M.map (evZ i) = M.map fun r => r[0]?.getD 0 + i * evZ i r.tail := List.map_congr_left fun r hr => by
      cases r with
      | nil => have := h _ hr; simp at this
      | cons x r => rfl
    have e2 : (M.map fun r => evZ i r.tail) = (M.map List.tail).map (evZ i) := by rw [List.map_map]; rfl
    have e3 : ∀ j : Nat, (M.map fun r => r[j + 1]?.getD 0) = (M.map List.tail).map fun r => r[j]?.getD 0 := fun j => by
      rw [List.map_map]
      refine List.map_congr_left fun r hr => ?_
      cases r with
      | nil => have := h _ hr; simp at this
      | cons x r => rfl
    rw [List.range_succ_eq_map, List.map_cons, List.map_map, e1, dotZ_lin i (fun r : List Int => r[0]?.getD 0) (fun r => evZ i r.tail), e2, lin i t (M.map List.tail) ks (fun r hr => by
      obtain ⟨r', hr', rfl⟩ := List.mem_map.1 hr
      have := h r' hr'
      simp
      omega)]
    show _ = dotZ (M.map fun r => r[0]?.getD 0) ks + i * evZ i ((List.range t).map ((fun j => dotZ (M.map fun r => r[j]?.getD 0) ks) ∘ Nat.succ))
    congr 2
    congr 1
    refine List.map_congr_left fun j _ => ?_
    show _ = dotZ (M.map fun r => r[j + 1]?.getD 0) ks
    rw [e3]
/-- What commitments come to. -/
theorem come_commits {p : Par} (h : Good p) : ∀ (l : List (Int × Int)) (ks : List Int) (a : Int × Int), (∀ y ∈ l, 0 ≤ y.1 ∧ 0 ≤ y.2) → (∀ k ∈ ks, 0 ≤ k) → 0 ≤ a.1 → 0 ≤ a.2 → comeU p.P (l.map (commitI p)) ks (commitI p a) = commitI p (comeP p.Q l ks a)
  | [], _, _, _, _, _, _ => by simp [comeU, comeP]
  | _ :: _, [], _, _, _, _, _ => by simp [comeU, comeP]
  | y :: l, k :: ks, a, hl, hk, a1, a2 => by
    obtain ⟨y1, y2⟩ := hl y (by simp)
    have k0 := hk k (by simp)
    have m1 := (mulI_bd y.1 k p.Q h.Q).1
    have m2 := (mulI_bd y.2 k p.Q h.Q).1
    show comeU p.P (l.map (commitI p)) ks (timesI p.P [commitI p a, powI (commitI p y) k p.P]) = commitI p (comeP p.Q l ks (addI a.1 (mulI y.1 k p.Q) p.Q, addI a.2 (mulI y.2 k p.Q) p.Q))
    rw [sums_2 h y k y1 y2 k0, sums_1 h a (mulI y.1 k p.Q, mulI y.2 k p.Q) a1 a2 m1 m2]
    exact come_commits h l ks _ (fun z hz => hl z (List.mem_cons_of_mem _ hz)) (fun z hz => hk z (List.mem_cons_of_mem _ hz)) (addI_bd _ _ _ h.Q).1 (addI_bd _ _ _ h.Q).1
/-- One secret: the pair that shares come to, and the numbers that commitments come to. -/
theorem fit_one {p : Par} (h : Good p) {i : Int} (hi : 0 ≤ i) {t : Nat} {M : List (List (Int × Int))} {ks : List Int} (hM : ∀ l ∈ M, l.length = t ∧ ∀ y ∈ l, 0 ≤ y.1 ∧ 0 ≤ y.2) (hk : ∀ k ∈ ks, 0 ≤ k) (hlen : M.length = ks.length) :
    atI p ((List.range t).map fun j => comeU p.P (M.map fun l => commitI p (l[j]?.getD (0, 0))) ks (timesI p.P [])) i = commitI p (comeP p.Q (M.map fun l => valGo p.Q i l (0, 0) 1) ks (0, 0)) := by
  have h0 := mayB_pos h.Q
  have e1 : ((List.range t).map fun j => comeU p.P (M.map fun l => commitI p (l[j]?.getD (0, 0))) ks (timesI p.P [])) = ((List.range t).map fun j => comeP p.Q (M.map fun l => l[j]?.getD (0, 0)) ks (0, 0)).map (commitI p) := by
    rw [List.map_map]
    refine List.map_congr_left fun j hj => ?_
    show _ = commitI p (comeP p.Q (M.map fun l => l[j]?.getD (0, 0)) ks (0, 0))
    rw [← come_commits h _ ks (0, 0) (fun y hy => by
      obtain ⟨l, hl, rfl⟩ := List.mem_map.1 hy
      have hj' := List.mem_range.1 hj
      have hj2 : j < l.length := by rw [(hM l hl).1]; exact hj'
      rw [List.getElem?_eq_getElem hj2]
      exact (hM l hl).2 _ (List.getElem_mem hj2)) hk (Int.le_refl 0) (Int.le_refl 0), commit_zero h, List.map_map]
    rfl
  have e2 : ∀ (l : List (List (Int × Int))) (f : List (Int × Int) → Int × Int), l.length = ks.length → comeP p.Q (l.map f) ks (0, 0) = (dotZ (l.map fun x => (f x).1) ks % p.Q, dotZ (l.map fun x => (f x).2) ks % p.Q) := fun l f hl => by
    rw [comeP_eq p.Q h.Q _ ks (0, 0) (by simpa using hl) (Int.le_refl 0) h0 (Int.le_refl 0) h0, List.map_map, List.map_map, Int.zero_add, Int.zero_add]
    rfl
  rw [e1, at_commits h i hi _ (fun y hy => by
    obtain ⟨j, _, rfl⟩ := List.mem_map.1 hy
    rw [e2 M _ hlen]
    exact ⟨Int.emod_nonneg _ (by omega), Int.emod_nonneg _ (by omega)⟩)]
  congr 1
  rw [valGo_ev h.Q _ (0, 0) 1 (Int.le_refl 0) h0 (Int.le_refl 0) h0, e2 M _ hlen, List.map_map, List.map_map, Int.zero_add, Int.one_mul, Int.zero_add, Int.one_mul]
  have half : ∀ (g : Int × Int → Int) (hg : g (0, 0) = 0) (f : List (Int × Int) → Int) (hf : ∀ l, Cg p.Q (f l) (evZ i (l.map g))) (c : Nat → Int) (hc : ∀ j, Cg p.Q (c j) (dotZ (M.map fun l => g (l[j]?.getD (0, 0))) ks)), evZ i ((List.range t).map c) % p.Q = dotZ (M.map f) ks % p.Q := fun g hg f hf c hc => by
    have a1 : Cg p.Q (evZ i ((List.range t).map c)) (evZ i ((List.range t).map fun j => dotZ (M.map fun l => g (l[j]?.getD (0, 0))) ks)) := evZ_cg c _ hc _
    have a2 : Cg p.Q (dotZ (M.map f) ks) (dotZ (M.map fun l => evZ i (l.map g)) ks) := dotZ_cg f _ hf M ks
    have a3 := lin i t (M.map fun l => l.map g) ks (fun r hr => by
      obtain ⟨l, hl, rfl⟩ := List.mem_map.1 hr
      rw [List.length_map]
      exact (hM l hl).1)
    rw [List.map_map] at a3
    have a4 : ((List.range t).map fun j => dotZ ((M.map fun l => l.map g).map fun r => r[j]?.getD 0) ks) = (List.range t).map fun j => dotZ (M.map fun l => g (l[j]?.getD (0, 0))) ks := List.map_congr_left fun j _ => by
      rw [List.map_map]
      congr 1
      refine List.map_congr_left fun l _ => ?_
      show ((l.map g)[j]?).getD 0 = g (l[j]?.getD (0, 0))
      rw [List.getElem?_map]
      cases l[j]? with
      | none => exact hg.symm
      | some y => rfl
    rw [a4] at a3
    exact a1.trans ((Cg.of_eq a3.symm).trans a2.symm)
  have v1 : ∀ l : List (Int × Int), Cg p.Q (valGo p.Q i l (0, 0) 1).1 (evZ i (l.map (·.1))) := fun l => by
    rw [valGo_ev h.Q l (0, 0) 1 (Int.le_refl 0) h0 (Int.le_refl 0) h0, Int.zero_add, Int.one_mul]
    exact Cg.mod _ _
  have v2 : ∀ l : List (Int × Int), Cg p.Q (valGo p.Q i l (0, 0) 1).2 (evZ i (l.map (·.2))) := fun l => by
    rw [valGo_ev h.Q l (0, 0) 1 (Int.le_refl 0) h0 (Int.le_refl 0) h0, Int.zero_add, Int.zero_add, Int.one_mul, Int.one_mul]
    exact Cg.mod _ _
  refine Prod.ext ?_ ?_
  · exact half (·.1) rfl _ v1 _ (fun j => by
      show Cg p.Q (comeP p.Q (M.map fun l => l[j]?.getD (0, 0)) ks (0, 0)).1 _
      rw [e2 M _ hlen]
      exact Cg.mod _ _)
  · exact half (·.2) rfl _ v2 _ (fun j => by
      show Cg p.Q (comeP p.Q (M.map fun l => l[j]?.getD (0, 0)) ks (0, 0)).2 _
      rw [e2 M _ hlen]
      exact Cg.mod _ _)
end Go.Proofs.YtmjdpmfcbeaecaaDoor

namespace Go.Proofs.YtmjdpmfcbeaecaaDoor
open Go.RowKit

theorem turnedI_length (p : Par) (l : List (List Int)) : (turnedI p l).length = wideI l := by simp [turnedI]
theorem turnedI_cols (p : Par) (l : List (List Int)) : ∀ c ∈ turnedI p l, c.length = l.length := by
  intro c hc
  obtain ⟨j, _, rfl⟩ := List.mem_map.1 hc
  simp [colI]
theorem shareI_length (p : Par) (l : List (List Int)) (x : Int) : (shareI p l x).length = l.length := by simp [shareI]
set_option maxRecDepth 100000 in
set_option maxHeartbeats 400000 in
theorem sequal_any (v1 v2 : Value) (xs ys : List Int) (X Y : Nat → Prop) (w : World) (h1 : Sl encU X w v1 xs) (h2 : Sl encU Y w v2 ys) :
    Calls Tryd.prog 73 #[v1, v2] w fun e w' => e = .returned (.bool (decide (xs = ys))) ∧ w.grownBy w' none := by
  have H1 := Lib.hid h1
  have H2 := Lib.hid h2
  obtain ⟨A1, c1, rfl, hc1, hc2⟩ := h1.form
  obtain ⟨A2, c2, rfl, hc3, hc4⟩ := h2.form
  clear h1 h2
  by_cases hl : xs.length = ys.length
  · have HLN := Lib.hid hl
    have HST : Hid ((∃ n, w = w.drewN n) ∧ xs.take 0 = ys.take 0) := Lib.hid ⟨⟨0, rfl⟩, rfl⟩
    rw [hl] at H1 hc1 ⊢
    clear hl
    go_enter Tryd.func73, Tryd.ntmps73
    go_wp2_with fail
    go_loopg [13] ys.length (fun g s13 wx => ∃ j : Nat, j + g = ys.length ∧ s13 = .int .i64 j ∧ Hid ((∃ n, wx = w.drewN n) ∧ xs.take j = ys.take j))
    case atStart => exact ⟨0, by omega, rfl, HST⟩
    case round =>
      obtain ⟨j, hj, rfl, HX⟩ := hrel
      obtain ⟨⟨n0, rfl⟩, htk⟩ := HX.out
      cases gk with
      | zero =>
        obtain rfl : j = ys.length := by omega
        have HE : Hid (decide (xs = ys) = true) := Lib.hid (by
          rw [List.take_length, ← HLN.out, List.take_length] at htk
          simpa using htk)
        clear HX HST htk
        go_wp2
        go_ret
        exact ⟨ret_bool HE.out.symm, grown_drewN' w _⟩
      | succ m =>
        have hjn : (j : Int) < (ys.length : Int) := by omega
        have hj0 : (0 : Int) ≤ (j : Int) := by omega
        have hjN : j < ys.length := by omega
        have hjX : j < xs.length := by rw [HLN.out]; exact hjN
        obtain ⟨g1, o1, c1', e1, _, _, a1, u1⟩ := (HLN.out ▸ H1.out : Sl encU X w (.slice A1 xs.length c1) xs).atU hjX
        injection e1 with e11 e12 e13
        subst e11 e13
        obtain ⟨g2, o2, c2', e2, _, _, a2, _⟩ := H2.out.atU hjN
        injection e2 with e21 e22 e23
        subst e21 e23
        have HSX := Lib.hid (List.take_succ_eq_append_getElem hjX)
        have HSY := Lib.hid (List.take_succ_eq_append_getElem hjN)
        have HTK := Lib.hid htk
        by_cases hxy : xs[j] = ys[j]
        · have HNX : Hid (xs.take (j + 1) = ys.take (j + 1)) := Lib.hid (by rw [HSX.out, HSY.out, hxy, HTK.out])
          rw [hxy] at a1
          clear HX HST e12 e22 htk hxy HSX HSY
          generalize ys[j] = y at *
          go_wp2_with fail
          go_quiet (fail)
          go_wp2_with fail
          go_roundg m
          case measure => omega
          case rel => exact ⟨j + 1, by omega, by go_num, Lib.hid ⟨⟨_, rfl⟩, HNX.out⟩⟩
        · have HE : Hid (decide (xs = ys) = false) := Lib.hid (by simp only [decide_eq_false_iff_not]; intro e; apply hxy; subst e; rfl)
          have hd : (xs[j] != ys[j]) = true := by simpa using hxy
          clear HX HST e12 e22 htk hxy HSX HSY
          generalize ys[j] = y at *
          generalize xs[j] = x at *
          go_wp2_with fail
          go_quiet (fail)
          go_wp2
          go_ret
          exact ⟨ret_bool HE.out.symm, (grown_drewN' w _).trans (grown_drewN' _ _)⟩
  · have hd : ((xs.length : Int) != (ys.length : Int)) = true := by simp; omega
    have HE : Hid (decide (xs = ys) = false) := Lib.hid (by simp only [decide_eq_false_iff_not]; intro e; exact hl (by rw [e]))
    clear hl
    go_enter Tryd.func73, Tryd.ntmps73
    go_wp2
    go_ret
    exact ⟨ret_bool HE.out.symm, World.grownBy.refl w none⟩
theorem commit_U64' (p : Par) (x : Int × Int) : U64 (commitI p x) := timesI_U64 _ _
def fitsI (p : Par) (coms : List (List Int)) (i : Int) (l : List (Int × Int)) : Bool := decide (l.map (commitI p) = shareI p coms i)
set_option maxRecDepth 100000 in
set_option maxHeartbeats 1000000 in
theorem fits_any (p : Par) (v1 : Value) (coms : List (List Int)) (i : Int) (v2 : Value) (l : List (Int × Int)) (X Y : Nat → Prop) (w : World) (hp : p.ok) (h1 : Sl (encS encU) X w v1 coms) (hi : U64 i) (h2 : Sl encP Y w v2 l) (hb : coms.length ≤ 100000) (hb2 : l.length ≤ 100000) :
    Calls Tryd.prog 21 #[p.v, v1, .int .u64 i, v2] w fun e w' => e = .returned (.bool (fitsI p coms i l)) ∧ w.grownBy w' none := by
  have HP := Lib.hid hp
  have HSH := Lib.hid (fun (w' : World) (hw : w.grownBy w' none) => share_any p v1 coms i X w' (h1.kept hw) hi hb)
  have H := Lib.hid h2
  obtain ⟨A, c, rfl, hc1, hc2⟩ := h2.form
  have HST : Hid (Acc encU w.heap.size 22 (fun g => w.heap.size ≤ g) (w.alloc (Obj.cells p.cells 24)) (.slice none 0 0) ((l.take 0).map (commitI p)) ∧ w.grownBy (w.alloc (Obj.cells p.cells 24)) none ∧ Bk (w.alloc (Obj.cells p.cells 24)) w.heap.size 24 p.cells) := Lib.hid ⟨Acc.nil _ _ _ _ _, World.grownBy_alloc w _ none, Bk.new w _ _⟩
  clear h1 h2 hi hp hb
  go_enter Tryd.func21, Tryd.ntmps21
  go_wp2_with fail
  go_loopg [9, 14] l.length (fun g s9 s14 wx => ∃ j : Nat, j + g = l.length ∧ s14 = .int .i64 j ∧ Hid (Acc encU w.heap.size 22 (fun g => w.heap.size ≤ g) wx s9 ((l.take j).map (commitI p)) ∧ w.grownBy wx none ∧ Bk wx w.heap.size 24 p.cells))
  case atStart => exact ⟨0, by omega, rfl, HST⟩
  case round =>
    obtain ⟨j, hj, rfl, HX⟩ := hrel
    cases gk with
    | zero =>
      obtain rfl : j = l.length := by omega
      have HS9 : Hid (Sl encU (fun g => w.heap.size ≤ g) wr u9 (l.map (commitI p))) := Lib.hid (by have := HX.out.1.sl; rwa [List.take_length] at this)
      have HG := Lib.hid HX.out.2.1
      have hp := HX.out.2.2.prule
      clear HX HST
      go_wp2_with fail
      refine (HSH.out _ HG.out).mono ?_
      rintro e' w1 ⟨u1, rfl, hs1, hg1⟩
      have HEQ := Lib.hid (sequal_any u9 u1 _ _ _ _ w1 (HS9.out.kept hg1) hs1)
      have HG1 := Lib.hid (HG.out.trans hg1)
      clear hs1 hg1 hp
      go_wp2_with fail
      refine HEQ.out.mono ?_
      rintro e' w2 ⟨rfl, hg2⟩
      have HG2 := Lib.hid (HG1.out.trans hg2)
      clear hg2
      go_wp2
      go_ret
      exact ⟨rfl, HG2.out⟩
    | succ m =>
      have hjn : (j : Int) < (l.length : Int) := by omega
      have hjN : j < l.length := by omega
      obtain ⟨hacc, hg, hbp⟩ := HX.out
      obtain ⟨g, o, c', e, hgl, _, hcu1, hcu2, hu1, hu2⟩ := (H.out.kept hg).atP hjN
      injection e with e1 e2 e3
      subst e1 e3
      have HSN := Lib.hid (map_take_snoc' (commitI p) l j hjN)
      have HU := Lib.hid (commit_U64' p l[j])
      have HF := Lib.hid (fun (w' : World) => commit_any p l[j] w' HP.out hu1 hu2)
      generalize hy : l[j] = y at HSN HU HF hcu1 hcu2 hu1 hu2
      clear hy
      have HG1 : Hid (wr.grownBy (wr.alloc (Obj.cells #[.int .u64 y.1, .int .u64 y.2] 36)) none) := Lib.hid (World.grownBy_alloc wr _ none)
      have HAC := Lib.hid (hacc.kept HG1.out)
      have HG := Lib.hid (hg.trans HG1.out)
      have HBp := Lib.hid (hbp.grown HG1.out (by simp))
      have hp := hbp.prule
      have hlp := hbp.lt
      have HLB : Hid ((((l.take j).map (commitI p)).length + 1) * 8 ≤ 140737488355328) := Lib.hid (by simp; omega)
      clear hacc hg hbp e2 HX HST hu1 hu2
      go_wp2_with fail
      refine (HF.out _).mono ?_
      rintro e' w1 ⟨rfl, hg1⟩
      have HG2 := Lib.hid (HG.out.trans hg1)
      have HA1 := Lib.hid (HAC.out.kept hg1)
      have HBp1 := Lib.hid (HBp.out.grown hg1 (by simp))
      clear hg1 hp
      go_wp2_with (at_builtin; refine wpList_pushG rfl (.tmp 18) (.tmp 22) rfl (E := encU) el_u64 HG2.out HA1.out (fun _ h => h) ⟨rfl, HU.out⟩ HLB.out rfl rfl ?_)
      intro v2 w2 hacc2 hg2 hgo
      have HFIN : Hid (Acc encU w.heap.size 22 (fun g => w.heap.size ≤ g) w2 v2 ((l.take (j + 1)).map (commitI p)) ∧ w.grownBy w2 none ∧ Bk w2 w.heap.size 24 p.cells) := Lib.hid ⟨by rw [HSN.out]; simpa using hacc2, hg2, HBp1.out.grown hgo (fun e => HA1.out.ne_bk HBp1.out (by decide) e.symm)⟩
      clear hacc2 hg2 hgo
      go_wp2_with fail
      go_roundg m
      case measure => omega
      case rel => exact ⟨j + 1, by omega, by go_num, HFIN⟩
end Go.Proofs.YtmjdpmfcbeaecaaDoor

namespace Go.Proofs.YtmjdpmfcbeaecaaDoor
open Go Go.RowKit

theorem is_commit' {p : Par} (h : Good p) (x : Int × Int) (_ : 0 ≤ x.1) (_ : 0 ≤ x.2) : isB p (commitI p x) = true := by
  have hP := may_bds h.P
  have hP2 := h.P2
  have e := commit_eq p x h.P
  have h0 : 0 ≤ commitI p x := by rw [e]; exact Int.emod_nonneg _ (by omega)
  have h1 : commitI p x < p.P := by rw [e]; exact Int.emod_lt_of_pos _ (by omega)
  have hc : Cg p.P (commitI p x ^ p.Q.toNat) 1 := by
    refine ((commit_cg p x h.P).pow _).trans ?_
    rw [Int.mul_pow, ← Int.pow_mul, ← Int.pow_mul, Nat.mul_comm x.1.toNat, Nat.mul_comm x.2.toNat, Int.pow_mul, Int.pow_mul]
    exact ((h.G.pow _).mul (h.H.pow _)).trans (Cg.of_eq (by rw [Int.one_pow, Int.one_pow]; rfl))
  have hp : powI (commitI p x) p.Q p.P = 1 := by
    rw [powI_yes _ _ _ h.P]
    unfold Cg at hc
    rw [hc, Int.emod_eq_of_lt (by decide) (by omega)]
  have hne : commitI p x ≠ 0 := by
    intro e0
    rw [e0] at hc
    have hQ : p.Q.toNat ≠ 0 := by have := h.Q2; omega
    rw [Int.zero_pow hQ] at hc
    unfold Cg at hc
    rw [Int.emod_eq_of_lt (a := 1) (by decide) (by omega)] at hc
    simp at hc
  simp only [isB, hp, Bool.and_eq_true, decide_eq_true_eq, beq_self_eq_true, and_true]
  omega
theorem wlist_pos {q : Int} (hq : mayB q = true) (xs : List Int) (at_ : Int) : ∀ k ∈ wList q xs at_, 0 ≤ k := by
  intro k hk
  unfold wList at hk
  split at hk
  · obtain ⟨i, _, rfl⟩ := List.mem_map.1 hk
    exact (mulI_bd _ _ _ hq).1
  · simp at hk
def dealersI (many : Nat) : List Int := (List.range many).map fun k => ((k + 1 : Nat) : Int)
def gotI (p : Par) (i : Int) (poly : Nat → Nat → List (Int × Int)) (nn many : Nat) : List (List (Int × Int)) := (List.range many).map fun k => (List.range nn).map fun s => valGo p.Q i (poly k s) (0, 0) 1
def fitD (p : Par) (poly : Nat → Nat → List (Int × Int)) (nn many : Nat) : List (Int × List (List Int)) := (List.range many).map fun k => (((k + 1 : Nat) : Int), (List.range nn).map fun s => (poly k s).map (commitI p))
theorem fitD_fst (p : Par) (poly : Nat → Nat → List (Int × Int)) (nn many : Nat) : (fitD p poly nn many).map (·.1) = dealersI many := by
  unfold fitD dealersI
  rw [List.map_map]
  rfl
theorem dealers_places {n : Int} {many : Nat} (h : (many : Int) ≤ n) : Places n (dealersI many) := by
  refine ⟨fun x hx => ?_, ?_⟩
  · obtain ⟨k, hk, rfl⟩ := List.mem_map.1 hx
    have := List.mem_range.1 hk
    omega
  · refine List.pairwise_map.2 (List.Pairwise.imp (R := (· < ·)) (fun {a b} hab => ?_) List.pairwise_lt_range)
    intro e
    have : (a : Int) + 1 = (b : Int) + 1 := by simpa using e
    omega
theorem getD_range {α : Type} (f : Nat → α) (d : α) {s n : Nat} (h : s < n) : ((List.range n).map f)[s]?.getD d = f s := by simp [h]
theorem fits_law {p : Par} (hm : mayP p = true) {many nn t : Nat} (h1 : 1 ≤ many) (h2 : (many : Int) ≤ p.N) (hn : (nn : Int) = secretsI p) (ht : (t : Int) = p.T + 1) {i : Int} (hi : 0 ≤ i) {poly : Nat → Nat → List (Int × Int)}
    (hp : ∀ k s, (poly k s).length = t ∧ ∀ y ∈ poly k s, 0 ≤ y.1 ∧ 0 ≤ y.2) :
    sumE p (dealersI many) (gotI p i poly nn many) = 0 ∧ comsE p (fitD p poly nn many) = 0 ∧ formedB p (comsL p (fitD p poly nn many)) = true ∧ fitsI p (comsL p (fitD p poly nn many)) i (sumL p (dealersI many) (gotI p i poly nn many)) = true := by
  have hg := good_of hm
  obtain ⟨hq, hP, ha, n1, n2, n3, t1, t2, t3, hs, k1, d1⟩ := may_apart hm
  have hpl : Places p.N (dealersI many) := dealers_places h2
  have hdl : (dealersI many).length = many := by simp [dealersI]
  have hM : MemOk p (dealersI many) (gotI p i poly nn many) := ⟨hm, hpl, by omega, by rw [hdl]; simp [gotI], fun x hx => by
    obtain ⟨k, _, rfl⟩ := List.mem_map.1 hx
    rw [← hn]
    simp⟩
  have hD : Deals p (fitD p poly nn many) := ⟨hm, by rw [fitD_fst]; exact hpl, by simp [fitD]; omega, fun d hd => by
    obtain ⟨k, _, rfl⟩ := List.mem_map.1 hd
    refine ⟨by rw [← hn]; simp, fun c hc => ?_⟩
    obtain ⟨s, _, rfl⟩ := List.mem_map.1 (show c ∈ (List.range nn).map fun s => (poly k s).map (commitI p) from hc)
    rw [← ht, List.length_map, (hp k s).1]⟩
  have e1 := sum_good hM
  have e2 := coms_good hD
  have hk : ∀ k ∈ wList p.Q (dealersI many) 0, 0 ≤ k := wlist_pos hq _ _
  have hkl : (wList p.Q (dealersI many) 0).length = many := by rw [wlist_length hq ha n3 hpl (by omega) 0, hdl]
  have hc : comsL p (fitD p poly nn many) = (List.range nn).map fun s => (List.range t).map fun j => comeU p.P (((List.range many).map fun k => poly k s).map fun l => commitI p (l[j]?.getD (0, 0))) (wList p.Q (dealersI many) 0) (timesI p.P []) := by
    unfold comsL
    rw [if_pos e2, ← hn, ← ht, Int.toNat_natCast, Int.toNat_natCast, fitD_fst]
    refine List.map_congr_left fun s hs => List.map_congr_left fun j hj => ?_
    congr 1
    unfold fitD
    rw [List.map_map, List.map_map]
    refine List.map_congr_left fun k _ => ?_
    show ((((List.range nn).map fun s => (poly k s).map (commitI p))[s]?.getD [])[j]?).getD 0 = commitI p ((poly k s)[j]?.getD (0, 0))
    have hj' : j < (poly k s).length := by rw [(hp k s).1]; exact List.mem_range.1 hj
    rw [getD_range _ _ (List.mem_range.1 hs), List.getElem?_map, List.getElem?_eq_getElem hj']
    rfl
  have hx : sumL p (dealersI many) (gotI p i poly nn many) = (List.range nn).map fun s => comeP p.Q (((List.range many).map fun k => poly k s).map fun l => valGo p.Q i l (0, 0) 1) (wList p.Q (dealersI many) 0) (0, 0) := by
    unfold sumL
    rw [if_pos e1, ← hn, Int.toNat_natCast]
    refine List.map_congr_left fun s hs => ?_
    congr 1
    unfold gotI
    rw [List.map_map, List.map_map]
    refine List.map_congr_left fun k _ => ?_
    show (((List.range nn).map fun s => valGo p.Q i (poly k s) (0, 0) 1)[s]?).getD (0, 0) = valGo p.Q i (poly k s) (0, 0) 1
    rw [getD_range _ _ (List.mem_range.1 hs)]
  have hMs : ∀ s, ∀ l ∈ (List.range many).map fun k => poly k s, l.length = t ∧ ∀ y ∈ l, 0 ≤ y.1 ∧ 0 ≤ y.2 := fun s l hl => by
    obtain ⟨k, _, rfl⟩ := List.mem_map.1 hl
    exact hp k s
  have h0 := mayB_pos hq
  have hz : ∀ a b : Int, isB p (commitI p (a % p.Q, b % p.Q)) = true := fun a b => is_commit' hg _ (Int.emod_nonneg _ (by omega)) (Int.emod_nonneg _ (by omega))
  refine ⟨e1, e2, ?_, ?_⟩
  · have hw : IntKind.i64.wrap (p.T + 1) = (t : Int) := by rw [← ht]; exact IntWalk.i64_in _ (by omega)
    unfold formedB allB
    rw [hc, hw, ← hn]
    simp only [List.length_map, List.length_range, decide_true, Bool.true_and, Bool.not_eq_true', List.any_eq_false]
    intro r hr
    obtain ⟨s, _, rfl⟩ := List.mem_map.1 hr
    simp only [rowBad, List.length_map, List.length_range, Bool.or_eq_true, decide_eq_true_eq, List.any_eq_true, not_or, not_exists, not_and]
    refine ⟨by simp, fun x hx => ?_⟩
    obtain ⟨j, hj, rfl⟩ := List.mem_map.1 hx
    have hb := List.mem_range.1 hj
    have e3 : ((List.range many).map fun k => poly k s).map (fun l => commitI p (l[j]?.getD (0, 0))) = (((List.range many).map fun k => poly k s).map fun l => l[j]?.getD (0, 0)).map (commitI p) := by
      rw [List.map_map, List.map_map, List.map_map]
      rfl
    have hy : ∀ y ∈ ((List.range many).map fun k => poly k s).map (fun l => l[j]?.getD (0, 0)), 0 ≤ y.1 ∧ 0 ≤ y.2 := fun y hy => by
      obtain ⟨l, hl, rfl⟩ := List.mem_map.1 hy
      have hj2 : j < l.length := by rw [(hMs s l hl).1]; exact hb
      rw [List.getElem?_eq_getElem hj2]
      exact (hMs s l hl).2 _ (List.getElem_mem hj2)
    rw [e3, ← commit_zero hg, come_commits hg _ _ (0, 0) hy hk (Int.le_refl 0) (Int.le_refl 0)]
    rw [comeP_eq p.Q hq _ _ (0, 0) (by simp [hkl]) (Int.le_refl 0) h0 (Int.le_refl 0) h0]
    simp [hz]
  · unfold fitsI shareI
    rw [hc, hx, List.map_map, List.map_map]
    refine decide_eq_true (List.map_congr_left fun s _ => ?_)
    exact (fit_one hg hi (hMs s) hk (by simp [hkl])).symm
end Go.Proofs.YtmjdpmfcbeaecaaDoor

namespace Go.Proofs.YtmjdpmfcbeaecaaDoor
open Go

section
variable {P : Program} {Q : Exit → Act → World → Prop} {a0 : Act} {w0 : World}
def upTo (k m : Nat) : Array Bool := Array.replicate k true ++ Array.replicate (m - k) false
theorem upTo_at {k m i : Nat} (hk : k ≤ m) (d : Bool) : (upTo k m).getD i d = if i < k then true else if i < m then false else d := by
  unfold upTo
  rw [Array.getD_eq_getD_getElem?, Array.getElem?_append]
  by_cases h1 : i < k
  · simp [h1]
  · by_cases h2 : i < m
    · simp [h1, h2, show i - k < m - k by omega]
    · simp [h1, h2, show ¬ i - k < m - k by omega]
theorem upTo_set {k m : Nat} (hk : k < m) : (upTo k m).setIfInBounds k true = upTo (k + 1) m := by
  refine Array.ext (by simp [upTo]; omega) fun i h1 h2 => ?_
  have e1 := upTo_at (k := k + 1) (m := m) (i := i) (by omega) false
  have e2 := upTo_at (k := k) (m := m) (i := i) (by omega) false
  have h3 : i < (upTo k m).size := by simpa using h1
  rw [Array.getElem_setIfInBounds h3]
  rw [Array.getD_eq_getD_getElem?, Array.getElem?_eq_getElem h2] at e1
  rw [Array.getD_eq_getD_getElem?, Array.getElem?_eq_getElem h3] at e2
  simp only [Option.getD_some] at e1 e2
  rw [e1]
  split
  · rename_i h
    subst h
    simp
  · rename_i h
    rw [e2]
    by_cases h4 : i < k
    · simp [h4, show i < k + 1 by omega]
    · simp [h4, show ¬ i < k + 1 by omega]
def seqmB (ops : Array Oper) (n sz : Nat) : Bool := Region.noSelect ops && decide (n ≤ ops.size) && topoB ops n && distB ops n sz
theorem wpList_monoR {l : List Oper} (n : Nat) (hB : seqmB l.toArray n a0.tmps.size = true)
    (h : MonoR P l.toArray n a0 w0 (fun Vs => ∀ w, w0.grownBy w none → FinN P l.toArray Q w Vs l a0) n [] l) : wpList P l.toArray Q l a0 w0 := by
  obtain ⟨hM', hn'⟩ := MonoN.cut (MonoR.up h)
  simp only [seqmB, Bool.and_eq_true, decide_eq_true_eq] at hB
  obtain ⟨⟨⟨hsel, hn⟩, htopo⟩, hdist⟩ := hB
  obtain ⟨Vs, hVl, hF, hO⟩ := Mono.out hM'
  simp only [List.reverse_nil, List.nil_append, List.length_nil, Nat.zero_add] at hF hO
  have htl : (l.take n).length = n := by simp; omega
  have hVn : Vs.length = n := hVl.trans htl
  have hsz : l.toArray.size = l.length := by simp
  have key : ∀ m k a w, k + m = n → MInv l.toArray n a0 w0 Vs (upTo k l.toArray.size) a w → wpList P l.toArray Q (l.drop k) a w := by
    intro m
    induction m with
    | zero =>
      intro k a w hk inv
      obtain rfl : k = n := by omega
      have hk : ∀ (q : Nat) (V : Pv) (o : Oper), Vs[q]? = some V → (l.take k)[q]? = some o → V.p (match o.dst with | some d => a.eval (.tmp d) | none => undef) w := by
        intro q V o hv ho
        have hqn : q < k := by have := (List.getElem?_eq_some_iff.1 hv).1; omega
        have h1 := inv.known q V (by rw [upTo_at hn]; simp [hqn]) hv
        have h2 : dstAt l.toArray q = o.dst := by
          have : l[q]? = some o := by rw [List.getElem?_take, if_pos hqn] at ho; exact ho
          simp [dstAt, this]
        rw [h2] at h1
        have h3 : (match o.dst with | some d => a.eval (.tmp d) | none => undef) = valOf o.dst a := by cases o.dst <;> rfl
        rw [h3]
        exact h1
      have hcut := FinN.cut (by rw [hVn]; omega) (hF w inv.grown)
      rw [hVn] at hcut
      have hfin := Fin'.all hVl hk hcut
      have hon : onto a ((l.take k).map (·.dst)) a0 = a := by
        refine act_ext (fun t => onto_at a t _ _ inv.tsize.symm ?_) ((onto_defers _ _ _).trans inv.defers.symm)
        by_cases ht : some t ∈ (l.take k).map (·.dst)
        · exact .inl ht
        · refine .inr (inv.rest t fun j hj _ e => ht ?_).symm
          have hjl : j < l.length := by omega
          have : l[j].dst = some t := by simpa [dstAt, hjl] using e
          exact List.mem_map.2 ⟨l[j], List.mem_iff_getElem?.2 ⟨j, by rw [List.getElem?_take, if_pos hj, List.getElem?_eq_getElem hjl]⟩, this⟩
      rw [hon] at hfin
      exact hfin
    | succ m ih =>
      intro k a w hk inv
      have hkn : k < n := by omega
      have hkl : k < l.length := by omega
      have ho : l.toArray[k]? = some l[k] := by simp [hkl]
      have hnext : (l.take n)[k]? = some l[k] := by rw [List.getElem?_take, if_pos hkn, List.getElem?_eq_getElem hkl]
      obtain ⟨V, js, hV, hchk, hask⟩ := hO k l[k] hnext
      simp only [Bool.and_eq_true] at hchk
      obtain ⟨hpair, hlook⟩ := hchk
      have hu : (upTo k l.toArray.size).getD k true = false := by rw [upTo_at (by omega)]; simp [hkl]
      have hed : ∀ e ∈ l[k].after, Region.binds .any e = true → (upTo k l.toArray.size).getD e.on false = true := fun e he hb => by
        have ht := list_all_range htopo hkn
        simp only [ho, Option.map_some, Option.getD_some] at ht
        have := Array.all_eq_true_iff_forall_mem.1 ht e he
        rw [upTo_at (by omega)]
        simp only [hb, Bool.not_true, Bool.false_or, decide_eq_true_eq] at this
        simp [this]
      have hi : k ∈ Region.ready .any l.toArray (upTo k l.toArray.size) := mem_ready.2 ⟨hu, _, ho, hed⟩
      have hdst : ∀ d, l[k].dst = some d → d < a.tmps.size := by
        intro d hd
        have := list_all_range hdist hkn
        have h2 : dstAt l.toArray k = some d := by simp only [dstAt, ho]; exact hd
        rw [h2] at this
        simp only [Bool.and_eq_true, decide_eq_true_eq] at this
        rw [inv.tsize]
        exact this.1
      have hjs : ∀ x : Nat × Tmp, x ∈ js → dstAt l.toArray x.1 = some x.2 ∧ (upTo k l.toArray.size).getD x.1 false = true ∧ x.1 < k := by
        intro x hx
        have := List.all_eq_true.1 hpair x hx
        simp only [Bool.and_eq_true, beq_iff_eq] at this
        obtain ⟨oj, hoj, e, he, hb, hon⟩ := Region.waitsFor_spec this.2
        have hoo : l[k] = oj := Option.some.inj (ho.symm.trans hoj)
        subst hoo
        have ht := list_all_range htopo hkn
        simp only [ho, Option.map_some, Option.getD_some] at ht
        have ht := Array.all_eq_true_iff_forall_mem.1 ht e he
        simp only [hb, Bool.not_true, Bool.false_or, decide_eq_true_eq] at ht
        exact ⟨this.1, by rw [← hon]; exact hed e he hb, by rw [← hon]; exact ht⟩
      have hA := hask w inv.grown
      have hW := Ask.all (b := a) (fun x hx => by
        obtain ⟨h1, h2, h3⟩ := hjs x hx
        have hxl : x.1 < Vs.length := by omega
        have h4 : Vs[x.1]? = some Vs[x.1] := List.getElem?_eq_getElem hxl
        have h5 := inv.known x.1 _ h2 h4
        rw [h1] at h5
        have : (Vs.take k).getD x.1 Pv.any = Vs[x.1] := by
          rw [List.getD_eq_getElem?_getD, List.getElem?_take, if_pos h3, h4]
          rfl
        rw [this]
        exact h5) hA
      have hop := told_op (Q := Q) (ops := l.toArray) (a0 := a0) (a := a) (Region.noSelect_spec hsel k l[k] · · ho) hdst ((onto_size _ _ _).trans inv.tsize.symm) (fun t ht => by
        refine onto_at a t _ _ inv.tsize.symm ?_
        have h1 : (l[k].looksAt l.toArray).all (fun t => js.any (·.2 == t) || keptB l.toArray n k t) = true := by
          simpa only [lookB, ho, Option.map_some, Option.getD_some] using hlook
        have h2 := List.all_eq_true.1 h1 t ht
        simp only [Bool.or_eq_true] at h2
        rcases h2 with h2 | h2
        · left
          obtain ⟨x, hx, hxt⟩ := List.any_eq_true.1 h2
          exact List.mem_map.2 ⟨x, hx, by rw [beq_iff_eq.1 hxt]⟩
        · right
          refine (inv.rest t fun j hj hD e => ?_).symm
          have h3 := list_all_range h2 hj
          simp only [Bool.or_eq_true, bne_iff_ne, ne_eq, beq_iff_eq] at h3
          rcases h3 with (h3 | h3) | h3
          · exact h3 e
          · obtain ⟨oj, hoj, e', he', hb', hon⟩ := Region.waitsFor_spec h3
            have := inv.head.closed j oj hoj hD e' he' hb'
            rw [hon, getD_both hu] at this
            cases this
          · subst h3
            rw [getD_both hu] at hD
            cases hD) ho (onto_defers _ _ _) hW
      have hstep : wpOp P l.toArray Q k (wpList P l.toArray Q (l.drop (k + 1))) a w := wpOp_mono (fun a' w' hk' => by
        obtain ⟨v, ha, hv, hg⟩ := hk'
        have := minv_step inv hdist hi hkn ho hV (by omega) ha hv hg
        rw [upTo_set (by omega)] at this
        exact ih (k + 1) a' w' (by omega) this) hop
      rw [List.drop_eq_getElem_cons hkl]
      unfold wpOp at hstep
      simp only [ho] at hstep
      exact hstep
  refine key n 0 a0 w0 (by omega) ⟨⟨by simp [upTo], fun j oj hj hD => by rw [upTo_at (by omega)] at hD; simp at hD, fun t _ ht => by rw [upTo_at (by omega)]; simp at ht; simp [ht]⟩, World.grownBy.refl w0 none, rfl, rfl, fun _ _ => rfl, fun j V hD => by rw [upTo_at (by omega)] at hD; simp at hD⟩
theorem wp_region_seqm {l : List Oper} {id : Nat} (n : Nat) (hB : seqmB l.toArray n a0.tmps.size = true)
    (h : MonoR P l.toArray n a0 w0 (fun Vs => ∀ w, w0.grownBy w none → FinN P l.toArray Q w Vs l a0) n [] l) : (Code.region id l.toArray false).wp P Q a0 w0 :=
  wp_region_lit (wpList_monoR n hB h)
end
end Go.Proofs.YtmjdpmfcbeaecaaDoor

namespace Go.Proofs.YtmjdpmfcbeaecaaDoor
open Go Go.RowKit

def Pv.tup {α : Type} (E : Enc α) (xs : List α) (n : Int) : Pv := ⟨fun v w => ∃ u, v = .tuple #[u, .int .i64 n] ∧ Sl E TT w u xs, fun ⟨u, e, h⟩ hg => ⟨u, e, h.kept hg⟩⟩
def Pv.model (W : List (List Int)) (B : List Int) : Pv := ⟨fun v w => ∃ a b, v = .agg #[a, b] ∧ Sl (encS encI) TT w a W ∧ Sl encI TT w b B, fun ⟨a, b, e, h, k⟩ hg => ⟨a, b, e, h.kept hg, k.kept hg⟩⟩
def Pv.mtup (W : List (List Int)) (B : List Int) (n : Int) : Pv := ⟨fun v w => ∃ a b, v = .tuple #[.agg #[a, b], .int .i64 n] ∧ Sl (encS encI) TT w a W ∧ Sl encI TT w b B, fun ⟨a, b, e, h, k⟩ hg => ⟨a, b, e, h.kept hg, k.kept hg⟩⟩
def Pv.dealt (d : Int) (l : List (List Int)) : Pv := ⟨fun v w => ∃ u, v = .agg #[.int .i64 d, u] ∧ Sl (encS encU) TT w u l, fun ⟨u, e, h⟩ hg => ⟨u, e, h.kept hg⟩⟩
end Go.Proofs.YtmjdpmfcbeaecaaDoor

namespace Go.Proofs.YtmjdpmfcbeaecaaDoor
open Go Go.RowKit

set_option maxRecDepth 100000 in
set_option maxHeartbeats 4000000 in
theorem works20_any (w : World) : Calls Tryd.prog 6 #[] w fun e w' => e = .returned (.bool true) ∧ w.grownBy w' none := by
  go_enter Tryd.func6, Tryd.ntmps6
  go_wp2_with fail
  refine (small20_any w).mono ?_
  rintro e w2 ⟨rfl, hg⟩
  have HB : Hid (Bk (w2.alloc (.cells ps.cells 24)) w2.heap.size 24 ps.cells) := Lib.hid (Bk.new w2 _ _)
  have HG : Hid (w.grownBy (w2.alloc (.cells ps.cells 24)) none) := Lib.hid (hg.trans (World.grownBy_alloc _ _ none))
  clear hg
  go_upto_region 2 with (fail)
  obtain ⟨w3, hw3⟩ : ∃ w3, w2.alloc (.cells ps.cells 24) = w3 := ⟨_, rfl⟩
  rw [hw3] at HB HG ⊢
  clear hw3
  refine wp_region_seqm 8 (by kernel_rfl) ?_
  -- op 0 (slot 14): build
  refine MonoR.step (Pv.eq (.agg #[.int .u64 6, .int .u64 5])) [] (by kernel_rfl) (fun w' hw' => ?_) ?_
  · refine ask_do rfl fun K hK => ?_
    go_simp
    exact hK _ _ rfl rfl (World.grownBy.refl _ none)
  -- op 1 (slot 15): build
  refine MonoR.step (Pv.eq (.agg #[.int .u64 0, .int .u64 0])) [] (by kernel_rfl) (fun w' hw' => ?_) ?_
  · refine ask_do rfl fun K hK => ?_
    go_simp
    exact hK _ _ rfl rfl (World.grownBy.refl _ none)
  -- op 2 (slot 16): buildSlice
  refine MonoR.step (Pv.sl (encP) TT [(6, 5), (0, 0)]) [(0, 14), (1, 15)] (by kernel_rfl) (fun w' hw' => ?_) ?_
  · rintro _ rfl
    rintro _ rfl
    refine ask_do rfl fun K hK => ?_
    go_simp
    exact hK _ _ rfl (Sl.build [[.int .u64 6, .int .u64 5], [.int .u64 0, .int .u64 0]] rfl ⟨⟨rfl, by decide, by decide⟩, ⟨rfl, by decide, by decide⟩, trivial⟩ rfl (by decide)) (World.grownBy_alloc w' _ none)
  -- op 3 (slot 17): build
  refine MonoR.step (Pv.eq (.agg #[.int .u64 7, .int .u64 8])) [] (by kernel_rfl) (fun w' hw' => ?_) ?_
  · refine ask_do rfl fun K hK => ?_
    go_simp
    exact hK _ _ rfl rfl (World.grownBy.refl _ none)
  -- op 4 (slot 18): build
  refine MonoR.step (Pv.eq (.agg #[.int .u64 4, .int .u64 6])) [] (by kernel_rfl) (fun w' hw' => ?_) ?_
  · refine ask_do rfl fun K hK => ?_
    go_simp
    exact hK _ _ rfl rfl (World.grownBy.refl _ none)
  -- op 5 (slot 19): buildSlice
  refine MonoR.step (Pv.sl (encP) TT [(7, 8), (4, 6)]) [(3, 17), (4, 18)] (by kernel_rfl) (fun w' hw' => ?_) ?_
  · rintro _ rfl
    rintro _ rfl
    refine ask_do rfl fun K hK => ?_
    go_simp
    exact hK _ _ rfl (Sl.build [[.int .u64 7, .int .u64 8], [.int .u64 4, .int .u64 6]] rfl ⟨⟨rfl, by decide, by decide⟩, ⟨rfl, by decide, by decide⟩, trivial⟩ rfl (by decide)) (World.grownBy_alloc w' _ none)
  -- op 6 (slot 20): buildSlice
  refine MonoR.step (Pv.sl (encS encP) TT [[(6, 5), (0, 0)], [(7, 8), (4, 6)]]) [(2, 16), (5, 19)] (by kernel_rfl) (fun w' hw' => ?_) ?_
  · intro x16 h16
    have h16 : Sl (encP) TT w' x16 [(6, 5), (0, 0)] := h16
    obtain ⟨A16, c16, e16, k16, l16⟩ := h16.form
    have e16 : x16 = .slice A16 2 c16 := e16
    subst e16
    intro x19 h19
    have h19 : Sl (encP) TT w' x19 [(7, 8), (4, 6)] := h19
    obtain ⟨A19, c19, e19, k19, l19⟩ := h19.form
    have e19 : x19 = .slice A19 2 c19 := e19
    subst e19
    refine ask_do rfl fun K hK => ?_
    go_simp
    exact hK _ _ rfl (Sl.build [[.slice A16 2 c16], [.slice A19 2 c19]] rfl ⟨⟨_, rfl, h16⟩, ⟨_, rfl, h19⟩, trivial⟩ rfl (by decide)) (World.grownBy_alloc w' _ none)
  -- op 7 (slot 2): assign
  refine MonoR.step (Pv.sl (encS encP) TT [[(6, 5), (0, 0)], [(7, 8), (4, 6)]]) [(6, 20)] (by kernel_rfl) (fun w' hw' => ?_) ?_
  · intro x20 h20
    have h20 : Sl (encS encP) TT w' x20 [[(6, 5), (0, 0)], [(7, 8), (4, 6)]] := h20
    refine ask_do rfl fun K hK => ?_
    go_simp
    exact hK _ _ rfl h20 (World.grownBy.refl _ none)
  intro w4 hww4
  intro _ _
  intro _ _
  intro _ _
  intro _ _
  intro _ _
  intro _ _
  intro _ _
  intro v2 h2'
  simp only [Act.put, List.setIfInBounds_toArray, List.set_cons_zero, List.set_cons_succ]
  have HBd : Hid (Bk w4 w2.heap.size 24 ps.cells) := Lib.hid (Bk.grown HB.out hww4 (by simp))
  have HGd : Hid (w.grownBy w4 none) := Lib.hid ((HG.out).trans hww4)
  clear HB
  have HB := HBd
  clear HBd
  clear HG
  have HG := HGd
  clear HGd
  have HS2 : Hid (Sl (encS encP) TT w4 v2 [[(6, 5), (0, 0)], [(7, 8), (4, 6)]]) := Lib.hid h2'
  clear h2'
  clear hww4
  refine wpList_nil ?_
  go_upto_region 3 with (fail)
  refine wp_region_seqm 9 (by kernel_rfl) ?_
  -- op 0 (slot 22): load
  refine MonoR.step (Pv.eq (ps.v)) [] (by kernel_rfl) (fun w' hw' => ?_) ?_
  · refine ask_do rfl fun K hK => ?_
    have hp := (HB.out.grown hw' (by simp)).prule
    go_simp
    exact hK _ _ rfl rfl (World.grownBy.refl _ none)
  -- op 1 (slot 23): buildSlice
  refine MonoR.step (Pv.sl (encI) TT [1, 2]) [] (by kernel_rfl) (fun w' hw' => ?_) ?_
  · refine ask_do rfl fun K hK => ?_
    go_simp
    exact hK _ _ rfl (Sl.build [[.int .i64 1], [.int .i64 2]] rfl ⟨⟨rfl, ⟨by decide, by decide⟩⟩, ⟨rfl, ⟨by decide, by decide⟩⟩, trivial⟩ rfl (by decide)) (World.grownBy_alloc w' _ none)
  -- op 2 (slot 24): move
  refine MonoR.step (Pv.sl (encS encP) TT [[(6, 5), (0, 0)], [(7, 8), (4, 6)]]) [] (by kernel_rfl) (fun w' hw' => ?_) ?_
  · refine ask_do rfl fun K hK => ?_
    go_simp
    exact hK _ _ rfl (HS2.out.kept hw') (World.grownBy.refl _ none)
  -- op 3 (slot 25): call
  refine MonoR.step (Pv.tup (encP) [(5, 2), (7, 5)] 0) [(0, 22), (1, 23), (2, 24)] (by kernel_rfl) (fun w' hw' => ?_) ?_
  · rintro _ rfl
    intro x23 h23
    have h23 : Sl (encI) TT w' x23 [1, 2] := h23
    intro x24 h24
    have h24 : Sl (encS encP) TT w' x24 [[(6, 5), (0, 0)], [(7, 8), (4, 6)]] := h24
    refine ask_do rfl fun K hK => ?_
    go_simp
    refine (sum_any ps _ [1, 2] _ [[(6, 5), (0, 0)], [(7, 8), (4, 6)]] TT TT w' ps_ok h23 h24 (by decide) (by decide)).mono ?_
    rintro e w3 ⟨v3, he, h3, hg⟩
    rw [(show sumE ps [1, 2] [[(6, 5), (0, 0)], [(7, 8), (4, 6)]] = 0 by rw [sumE_eq]; decide +kernel)] at he
    rw [(show sumL ps [1, 2] [[(6, 5), (0, 0)], [(7, 8), (4, 6)]] = [(5, 2), (7, 5)] by rw [sumL_eq]; decide +kernel)] at h3
    subst he
    exact hK _ _ rfl ⟨_, rfl, h3.more (fun _ _ _ => trivial)⟩ hg
  -- op 4 (slot 21): move
  refine MonoR.step (Pv.tup (encP) [(5, 2), (7, 5)] 0) [(3, 25)] (by kernel_rfl) (fun w' hw' => ?_) ?_
  · intro x25 q25
    obtain ⟨u25, e25, h25⟩ : ∃ u, x25 = .tuple #[u, .int .i64 0] ∧ Sl (encP) TT w' u [(5, 2), (7, 5)] := q25
    subst e25
    refine ask_do rfl fun K hK => ?_
    go_simp
    exact hK _ _ rfl ⟨_, rfl, h25⟩ (World.grownBy.refl _ none)
  -- op 5 (slot 26): extract
  refine MonoR.step (Pv.sl (encP) TT [(5, 2), (7, 5)]) [(4, 21)] (by kernel_rfl) (fun w' hw' => ?_) ?_
  · intro x21 q21
    obtain ⟨u21, e21, h21⟩ : ∃ u, x21 = .tuple #[u, .int .i64 0] ∧ Sl (encP) TT w' u [(5, 2), (7, 5)] := q21
    subst e21
    refine ask_do rfl fun K hK => ?_
    go_simp
    exact hK _ _ rfl h21 (World.grownBy.refl _ none)
  -- op 6 (slot 27): extract
  refine MonoR.step (Pv.eq (.int .i64 0)) [(4, 21)] (by kernel_rfl) (fun w' hw' => ?_) ?_
  · intro x21 q21
    obtain ⟨u21, e21, h21⟩ : ∃ u, x21 = .tuple #[u, .int .i64 0] ∧ Sl (encP) TT w' u [(5, 2), (7, 5)] := q21
    subst e21
    refine ask_do rfl fun K hK => ?_
    go_simp
    exact hK _ _ rfl rfl (World.grownBy.refl _ none)
  -- op 7 (slot 3): assign
  refine MonoR.step (Pv.sl (encP) TT [(5, 2), (7, 5)]) [(5, 26)] (by kernel_rfl) (fun w' hw' => ?_) ?_
  · intro x26 h26
    have h26 : Sl (encP) TT w' x26 [(5, 2), (7, 5)] := h26
    refine ask_do rfl fun K hK => ?_
    go_simp
    exact hK _ _ rfl h26 (World.grownBy.refl _ none)
  -- op 8 (slot 4): assign
  refine MonoR.step (Pv.eq (.int .i64 0)) [(6, 27)] (by kernel_rfl) (fun w' hw' => ?_) ?_
  · rintro _ rfl
    refine ask_do rfl fun K hK => ?_
    go_simp
    exact hK _ _ rfl rfl (World.grownBy.refl _ none)
  intro w5 hww5
  intro _ _
  intro _ _
  intro _ _
  intro _ _
  intro _ _
  intro _ _
  intro _ _
  intro v3 h3'
  rintro _ rfl
  simp only [Act.put, List.setIfInBounds_toArray, List.set_cons_zero, List.set_cons_succ]
  have HBd : Hid (Bk w5 w2.heap.size 24 ps.cells) := Lib.hid (Bk.grown HB.out hww5 (by simp))
  have HGd : Hid (w.grownBy w5 none) := Lib.hid ((HG.out).trans hww5)
  have HS2d : Hid (Sl (encS encP) TT w5 v2 [[(6, 5), (0, 0)], [(7, 8), (4, 6)]]) := Lib.hid (Sl.kept HS2.out hww5)
  clear HB
  have HB := HBd
  clear HBd
  clear HG
  have HG := HGd
  clear HGd
  clear HS2
  have HS2 := HS2d
  clear HS2d
  have HS3 : Hid (Sl (encP) TT w5 v3 [(5, 2), (7, 5)]) := Lib.hid h3'
  clear h3'
  clear hww5
  refine wpList_nil ?_
  go_upto_region 4 with (fail)
  refine wp_region_seqm 9 (by kernel_rfl) ?_
  -- op 0 (slot 29): load
  refine MonoR.step (Pv.eq (ps.v)) [] (by kernel_rfl) (fun w' hw' => ?_) ?_
  · refine ask_do rfl fun K hK => ?_
    have hp := (HB.out.grown hw' (by simp)).prule
    go_simp
    exact hK _ _ rfl rfl (World.grownBy.refl _ none)
  -- op 1 (slot 30): buildSlice
  refine MonoR.step (Pv.sl (encI) TT [1, 1]) [] (by kernel_rfl) (fun w' hw' => ?_) ?_
  · refine ask_do rfl fun K hK => ?_
    go_simp
    exact hK _ _ rfl (Sl.build [[.int .i64 1], [.int .i64 1]] rfl ⟨⟨rfl, ⟨by decide, by decide⟩⟩, ⟨rfl, ⟨by decide, by decide⟩⟩, trivial⟩ rfl (by decide)) (World.grownBy_alloc w' _ none)
  -- op 2 (slot 31): move
  refine MonoR.step (Pv.sl (encS encP) TT [[(6, 5), (0, 0)], [(7, 8), (4, 6)]]) [] (by kernel_rfl) (fun w' hw' => ?_) ?_
  · refine ask_do rfl fun K hK => ?_
    go_simp
    exact hK _ _ rfl (HS2.out.kept hw') (World.grownBy.refl _ none)
  -- op 3 (slot 32): call
  refine MonoR.step (Pv.tup (encP) [] 6) [(0, 29), (1, 30), (2, 31)] (by kernel_rfl) (fun w' hw' => ?_) ?_
  · rintro _ rfl
    intro x30 h30
    have h30 : Sl (encI) TT w' x30 [1, 1] := h30
    intro x31 h31
    have h31 : Sl (encS encP) TT w' x31 [[(6, 5), (0, 0)], [(7, 8), (4, 6)]] := h31
    refine ask_do rfl fun K hK => ?_
    go_simp
    refine (sum_any ps _ [1, 1] _ [[(6, 5), (0, 0)], [(7, 8), (4, 6)]] TT TT w' ps_ok h30 h31 (by decide) (by decide)).mono ?_
    rintro e w3 ⟨v3, he, h3, hg⟩
    rw [(show sumE ps [1, 1] [[(6, 5), (0, 0)], [(7, 8), (4, 6)]] = 6 by rw [sumE_eq]; decide +kernel)] at he
    rw [(show sumL ps [1, 1] [[(6, 5), (0, 0)], [(7, 8), (4, 6)]] = [] by rw [sumL_eq]; decide +kernel)] at h3
    subst he
    exact hK _ _ rfl ⟨_, rfl, h3.more (fun _ _ _ => trivial)⟩ hg
  -- op 4 (slot 28): move
  refine MonoR.step (Pv.tup (encP) [] 6) [(3, 32)] (by kernel_rfl) (fun w' hw' => ?_) ?_
  · intro x32 q32
    obtain ⟨u32, e32, h32⟩ : ∃ u, x32 = .tuple #[u, .int .i64 6] ∧ Sl (encP) TT w' u [] := q32
    subst e32
    refine ask_do rfl fun K hK => ?_
    go_simp
    exact hK _ _ rfl ⟨_, rfl, h32⟩ (World.grownBy.refl _ none)
  -- op 5 (slot 33): extract
  refine MonoR.step (Pv.sl (encP) TT []) [(4, 28)] (by kernel_rfl) (fun w' hw' => ?_) ?_
  · intro x28 q28
    obtain ⟨u28, e28, h28⟩ : ∃ u, x28 = .tuple #[u, .int .i64 6] ∧ Sl (encP) TT w' u [] := q28
    subst e28
    refine ask_do rfl fun K hK => ?_
    go_simp
    exact hK _ _ rfl h28 (World.grownBy.refl _ none)
  -- op 6 (slot 34): extract
  refine MonoR.step (Pv.eq (.int .i64 6)) [(4, 28)] (by kernel_rfl) (fun w' hw' => ?_) ?_
  · intro x28 q28
    obtain ⟨u28, e28, h28⟩ : ∃ u, x28 = .tuple #[u, .int .i64 6] ∧ Sl (encP) TT w' u [] := q28
    subst e28
    refine ask_do rfl fun K hK => ?_
    go_simp
    exact hK _ _ rfl rfl (World.grownBy.refl _ none)
  -- op 7 (slot 5): assign
  refine MonoR.step (Pv.sl (encP) TT []) [(5, 33)] (by kernel_rfl) (fun w' hw' => ?_) ?_
  · intro x33 h33
    have h33 : Sl (encP) TT w' x33 [] := h33
    refine ask_do rfl fun K hK => ?_
    go_simp
    exact hK _ _ rfl h33 (World.grownBy.refl _ none)
  -- op 8 (slot 6): assign
  refine MonoR.step (Pv.eq (.int .i64 6)) [(6, 34)] (by kernel_rfl) (fun w' hw' => ?_) ?_
  · rintro _ rfl
    refine ask_do rfl fun K hK => ?_
    go_simp
    exact hK _ _ rfl rfl (World.grownBy.refl _ none)
  intro w6 hww6
  intro _ _
  intro _ _
  intro _ _
  intro _ _
  intro _ _
  intro _ _
  intro _ _
  intro _ _
  rintro _ rfl
  simp only [Act.put, List.setIfInBounds_toArray, List.set_cons_zero, List.set_cons_succ]
  have HBd : Hid (Bk w6 w2.heap.size 24 ps.cells) := Lib.hid (Bk.grown HB.out hww6 (by simp))
  have HGd : Hid (w.grownBy w6 none) := Lib.hid ((HG.out).trans hww6)
  have HS2d : Hid (Sl (encS encP) TT w6 v2 [[(6, 5), (0, 0)], [(7, 8), (4, 6)]]) := Lib.hid (Sl.kept HS2.out hww6)
  have HS3d : Hid (Sl (encP) TT w6 v3 [(5, 2), (7, 5)]) := Lib.hid (Sl.kept HS3.out hww6)
  clear HB
  have HB := HBd
  clear HBd
  clear HG
  have HG := HGd
  clear HGd
  clear HS2
  have HS2 := HS2d
  clear HS2d
  clear HS3
  have HS3 := HS3d
  clear HS3d
  clear hww6
  refine wpList_nil ?_
  go_upto_region 5 with (fail)
  refine wp_region_seqm 9 (by kernel_rfl) ?_
  -- op 0 (slot 36): load
  refine MonoR.step (Pv.eq (ps.v)) [] (by kernel_rfl) (fun w' hw' => ?_) ?_
  · refine ask_do rfl fun K hK => ?_
    have hp := (HB.out.grown hw' (by simp)).prule
    go_simp
    exact hK _ _ rfl rfl (World.grownBy.refl _ none)
  -- op 1 (slot 37): buildSlice
  refine MonoR.step (Pv.sl (encI) TT [1, 8]) [] (by kernel_rfl) (fun w' hw' => ?_) ?_
  · refine ask_do rfl fun K hK => ?_
    go_simp
    exact hK _ _ rfl (Sl.build [[.int .i64 1], [.int .i64 8]] rfl ⟨⟨rfl, ⟨by decide, by decide⟩⟩, ⟨rfl, ⟨by decide, by decide⟩⟩, trivial⟩ rfl (by decide)) (World.grownBy_alloc w' _ none)
  -- op 2 (slot 38): move
  refine MonoR.step (Pv.sl (encS encP) TT [[(6, 5), (0, 0)], [(7, 8), (4, 6)]]) [] (by kernel_rfl) (fun w' hw' => ?_) ?_
  · refine ask_do rfl fun K hK => ?_
    go_simp
    exact hK _ _ rfl (HS2.out.kept hw') (World.grownBy.refl _ none)
  -- op 3 (slot 39): call
  refine MonoR.step (Pv.tup (encP) [] 1) [(0, 36), (1, 37), (2, 38)] (by kernel_rfl) (fun w' hw' => ?_) ?_
  · rintro _ rfl
    intro x37 h37
    have h37 : Sl (encI) TT w' x37 [1, 8] := h37
    intro x38 h38
    have h38 : Sl (encS encP) TT w' x38 [[(6, 5), (0, 0)], [(7, 8), (4, 6)]] := h38
    refine ask_do rfl fun K hK => ?_
    go_simp
    refine (sum_any ps _ [1, 8] _ [[(6, 5), (0, 0)], [(7, 8), (4, 6)]] TT TT w' ps_ok h37 h38 (by decide) (by decide)).mono ?_
    rintro e w3 ⟨v3, he, h3, hg⟩
    rw [(show sumE ps [1, 8] [[(6, 5), (0, 0)], [(7, 8), (4, 6)]] = 1 by rw [sumE_eq]; decide +kernel)] at he
    rw [(show sumL ps [1, 8] [[(6, 5), (0, 0)], [(7, 8), (4, 6)]] = [] by rw [sumL_eq]; decide +kernel)] at h3
    subst he
    exact hK _ _ rfl ⟨_, rfl, h3.more (fun _ _ _ => trivial)⟩ hg
  -- op 4 (slot 35): move
  refine MonoR.step (Pv.tup (encP) [] 1) [(3, 39)] (by kernel_rfl) (fun w' hw' => ?_) ?_
  · intro x39 q39
    obtain ⟨u39, e39, h39⟩ : ∃ u, x39 = .tuple #[u, .int .i64 1] ∧ Sl (encP) TT w' u [] := q39
    subst e39
    refine ask_do rfl fun K hK => ?_
    go_simp
    exact hK _ _ rfl ⟨_, rfl, h39⟩ (World.grownBy.refl _ none)
  -- op 5 (slot 40): extract
  refine MonoR.step (Pv.sl (encP) TT []) [(4, 35)] (by kernel_rfl) (fun w' hw' => ?_) ?_
  · intro x35 q35
    obtain ⟨u35, e35, h35⟩ : ∃ u, x35 = .tuple #[u, .int .i64 1] ∧ Sl (encP) TT w' u [] := q35
    subst e35
    refine ask_do rfl fun K hK => ?_
    go_simp
    exact hK _ _ rfl h35 (World.grownBy.refl _ none)
  -- op 6 (slot 41): extract
  refine MonoR.step (Pv.eq (.int .i64 1)) [(4, 35)] (by kernel_rfl) (fun w' hw' => ?_) ?_
  · intro x35 q35
    obtain ⟨u35, e35, h35⟩ : ∃ u, x35 = .tuple #[u, .int .i64 1] ∧ Sl (encP) TT w' u [] := q35
    subst e35
    refine ask_do rfl fun K hK => ?_
    go_simp
    exact hK _ _ rfl rfl (World.grownBy.refl _ none)
  -- op 7 (slot 7): assign
  refine MonoR.step (Pv.sl (encP) TT []) [(5, 40)] (by kernel_rfl) (fun w' hw' => ?_) ?_
  · intro x40 h40
    have h40 : Sl (encP) TT w' x40 [] := h40
    refine ask_do rfl fun K hK => ?_
    go_simp
    exact hK _ _ rfl h40 (World.grownBy.refl _ none)
  -- op 8 (slot 8): assign
  refine MonoR.step (Pv.eq (.int .i64 1)) [(6, 41)] (by kernel_rfl) (fun w' hw' => ?_) ?_
  · rintro _ rfl
    refine ask_do rfl fun K hK => ?_
    go_simp
    exact hK _ _ rfl rfl (World.grownBy.refl _ none)
  intro w7 hww7
  intro _ _
  intro _ _
  intro _ _
  intro _ _
  intro _ _
  intro _ _
  intro _ _
  intro _ _
  rintro _ rfl
  simp only [Act.put, List.setIfInBounds_toArray, List.set_cons_zero, List.set_cons_succ]
  have HBd : Hid (Bk w7 w2.heap.size 24 ps.cells) := Lib.hid (Bk.grown HB.out hww7 (by simp))
  have HGd : Hid (w.grownBy w7 none) := Lib.hid ((HG.out).trans hww7)
  have HS2d : Hid (Sl (encS encP) TT w7 v2 [[(6, 5), (0, 0)], [(7, 8), (4, 6)]]) := Lib.hid (Sl.kept HS2.out hww7)
  have HS3d : Hid (Sl (encP) TT w7 v3 [(5, 2), (7, 5)]) := Lib.hid (Sl.kept HS3.out hww7)
  clear HB
  have HB := HBd
  clear HBd
  clear HG
  have HG := HGd
  clear HGd
  clear HS2
  have HS2 := HS2d
  clear HS2d
  clear HS3
  have HS3 := HS3d
  clear HS3d
  clear hww7
  refine wpList_nil ?_
  clear HS2
  go_upto_region 6 with (fail)
  refine wp_region_seqm 6 (by kernel_rfl) ?_
  -- op 0 (slot 43): load
  refine MonoR.step (Pv.eq (ps.v)) [] (by kernel_rfl) (fun w' hw' => ?_) ?_
  · refine ask_do rfl fun K hK => ?_
    have hp := (HB.out.grown hw' (by simp)).prule
    go_simp
    exact hK _ _ rfl rfl (World.grownBy.refl _ none)
  -- op 1 (slot 44): buildSlice
  refine MonoR.step (Pv.sl (encU) TT [1, 10]) [] (by kernel_rfl) (fun w' hw' => ?_) ?_
  · refine ask_do rfl fun K hK => ?_
    go_simp
    exact hK _ _ rfl (Sl.build [[.int .u64 1], [.int .u64 10]] rfl ⟨⟨rfl, ⟨by decide, by decide⟩⟩, ⟨rfl, ⟨by decide, by decide⟩⟩, trivial⟩ rfl (by decide)) (World.grownBy_alloc w' _ none)
  -- op 2 (slot 45): call
  refine MonoR.step (Pv.mtup [[1]] [(-1)] 0) [(0, 43), (1, 44)] (by kernel_rfl) (fun w' hw' => ?_) ?_
  · rintro _ rfl
    intro x44 h44
    have h44 : Sl (encU) TT w' x44 [1, 10] := h44
    refine ask_do rfl fun K hK => ?_
    go_simp
    refine (smodel_any ps _ [1, 10] TT w' ps_ok h44 (by decide)).mono ?_
    rintro e w3 ⟨a3, b3, he, h3, k3, _, hg⟩
    rw [(show modelE ps [1, 10] = 0 by decide +kernel)] at he
    rw [(show modelW ps [1, 10] = [[1]] by decide +kernel)] at h3
    rw [(show modelB ps [1, 10] = [(-1)] by decide +kernel)] at k3
    subst he
    exact hK _ _ rfl ⟨_, _, rfl, h3.plain.more (fun _ _ _ => trivial), k3.more (fun _ _ _ => trivial)⟩ hg
  -- op 3 (slot 42): move
  refine MonoR.step (Pv.mtup [[1]] [(-1)] 0) [(2, 45)] (by kernel_rfl) (fun w' hw' => ?_) ?_
  · intro x45 q45
    obtain ⟨a45, b45, e45, h45, k45⟩ : ∃ a b, x45 = .tuple #[.agg #[a, b], .int .i64 0] ∧ Sl (encS encI) TT w' a [[1]] ∧ Sl encI TT w' b [(-1)] := q45
    subst e45
    refine ask_do rfl fun K hK => ?_
    go_simp
    exact hK _ _ rfl ⟨_, _, rfl, h45, k45⟩ (World.grownBy.refl _ none)
  -- op 4 (slot 46): extract
  refine MonoR.step (Pv.model [[1]] [(-1)]) [(3, 42)] (by kernel_rfl) (fun w' hw' => ?_) ?_
  · intro x42 q42
    obtain ⟨a42, b42, e42, h42, k42⟩ : ∃ a b, x42 = .tuple #[.agg #[a, b], .int .i64 0] ∧ Sl (encS encI) TT w' a [[1]] ∧ Sl encI TT w' b [(-1)] := q42
    subst e42
    refine ask_do rfl fun K hK => ?_
    go_simp
    exact hK _ _ rfl ⟨_, _, rfl, h42, k42⟩ (World.grownBy.refl _ none)
  -- op 5 (slot 47): extract
  refine MonoR.step (Pv.eq (.int .i64 0)) [(3, 42)] (by kernel_rfl) (fun w' hw' => ?_) ?_
  · intro x42 q42
    obtain ⟨a42, b42, e42, h42, k42⟩ : ∃ a b, x42 = .tuple #[.agg #[a, b], .int .i64 0] ∧ Sl (encS encI) TT w' a [[1]] ∧ Sl encI TT w' b [(-1)] := q42
    subst e42
    refine ask_do rfl fun K hK => ?_
    go_simp
    exact hK _ _ rfl rfl (World.grownBy.refl _ none)
  intro w8 hww8
  intro _ _
  intro _ _
  intro _ _
  intro _ _
  intro v46 h46'
  rintro _ rfl
  simp only [Act.put, List.setIfInBounds_toArray, List.set_cons_zero, List.set_cons_succ]
  have HBd : Hid (Bk w8 w2.heap.size 24 ps.cells) := Lib.hid (Bk.grown HB.out hww8 (by simp))
  have HGd : Hid (w.grownBy w8 none) := Lib.hid ((HG.out).trans hww8)
  have HS3d : Hid (Sl (encP) TT w8 v3 [(5, 2), (7, 5)]) := Lib.hid (Sl.kept HS3.out hww8)
  clear HB
  have HB := HBd
  clear HBd
  clear HG
  have HG := HGd
  clear HGd
  clear HS3
  have HS3 := HS3d
  clear HS3d
  obtain ⟨a46, b46, e46, ha46, hb46⟩ := h46'
  subst e46
  have HA46 : Hid (Sl (encS encI) TT w8 a46 [[1]]) := Lib.hid ha46
  have HBB46 : Hid (Sl encI TT w8 b46 [(-1)]) := Lib.hid hb46
  clear ha46 hb46
  clear hww8
  show wpList Tryd.prog _ _ _ _ w8
  obtain ⟨A46, n46, c46, rfl⟩ := HA46.out.shape
  obtain ⟨D46, m46, d46, rfl⟩ := HBB46.out.shape
  obtain ⟨w9, hww9⟩ : ∃ x, w8.alloc (.cells #[.slice A46 n46 c46, .slice D46 m46 d46] 59) = x := ⟨_, rfl⟩
  have HM9 : Hid (Bk w9 w8.heap.size 59 #[.slice A46 n46 c46, .slice D46 m46 d46]) := Lib.hid (by rw [← hww9]; exact Bk.new _ _ _)
  have HMG9 : Hid (w8.grownBy w9 none) := Lib.hid (by rw [← hww9]; exact World.grownBy_alloc _ _ none)
  have HBd : Hid (Bk w9 w2.heap.size 24 ps.cells) := Lib.hid (Bk.grown HB.out HMG9.out (by simp))
  have HGd : Hid (w.grownBy w9 none) := Lib.hid ((HG.out).trans HMG9.out)
  have HS3d : Hid (Sl (encP) TT w9 v3 [(5, 2), (7, 5)]) := Lib.hid (Sl.kept HS3.out HMG9.out)
  have HA46d : Hid (Sl (encS encI) TT w9 (.slice A46 n46 c46) [[1]]) := Lib.hid (Sl.kept HA46.out HMG9.out)
  have HBB46d : Hid (Sl encI TT w9 (.slice D46 m46 d46) [(-1)]) := Lib.hid (Sl.kept HBB46.out HMG9.out)
  clear HB
  have HB := HBd
  clear HBd
  clear HG
  have HG := HGd
  clear HGd
  clear HS3
  have HS3 := HS3d
  clear HS3d
  clear HA46
  have HA46 := HA46d
  clear HA46d
  clear HBB46
  have HBB46 := HBB46d
  clear HBB46d
  go_upto_region 7 with (fail)
  try rw [hww9]
  clear hww9
  refine wp_region_seqm 6 (by kernel_rfl) ?_
  -- op 0 (slot 49): load
  refine MonoR.step (Pv.eq (ps.v)) [] (by kernel_rfl) (fun w' hw' => ?_) ?_
  · refine ask_do rfl fun K hK => ?_
    have hp := (HB.out.grown hw' (by simp)).prule
    go_simp
    exact hK _ _ rfl rfl (World.grownBy.refl _ none)
  -- op 1 (slot 50): buildSlice
  refine MonoR.step (Pv.sl (encU) TT [2, 0]) [] (by kernel_rfl) (fun w' hw' => ?_) ?_
  · refine ask_do rfl fun K hK => ?_
    go_simp
    exact hK _ _ rfl (Sl.build [[.int .u64 2], [.int .u64 0]] rfl ⟨⟨rfl, ⟨by decide, by decide⟩⟩, ⟨rfl, ⟨by decide, by decide⟩⟩, trivial⟩ rfl (by decide)) (World.grownBy_alloc w' _ none)
  -- op 2 (slot 51): call
  refine MonoR.step (Pv.mtup [] [] 20) [(0, 49), (1, 50)] (by kernel_rfl) (fun w' hw' => ?_) ?_
  · rintro _ rfl
    intro x50 h50
    have h50 : Sl (encU) TT w' x50 [2, 0] := h50
    refine ask_do rfl fun K hK => ?_
    go_simp
    refine (smodel_any ps _ [2, 0] TT w' ps_ok h50 (by decide)).mono ?_
    rintro e w3 ⟨a3, b3, he, h3, k3, _, hg⟩
    rw [(show modelE ps [2, 0] = 20 by decide +kernel)] at he
    rw [(show modelW ps [2, 0] = [] by decide +kernel)] at h3
    rw [(show modelB ps [2, 0] = [] by decide +kernel)] at k3
    subst he
    exact hK _ _ rfl ⟨_, _, rfl, h3.plain.more (fun _ _ _ => trivial), k3.more (fun _ _ _ => trivial)⟩ hg
  -- op 3 (slot 48): move
  refine MonoR.step (Pv.mtup [] [] 20) [(2, 51)] (by kernel_rfl) (fun w' hw' => ?_) ?_
  · intro x51 q51
    obtain ⟨a51, b51, e51, h51, k51⟩ : ∃ a b, x51 = .tuple #[.agg #[a, b], .int .i64 20] ∧ Sl (encS encI) TT w' a [] ∧ Sl encI TT w' b [] := q51
    subst e51
    refine ask_do rfl fun K hK => ?_
    go_simp
    exact hK _ _ rfl ⟨_, _, rfl, h51, k51⟩ (World.grownBy.refl _ none)
  -- op 4 (slot 52): extract
  refine MonoR.step (Pv.model [] []) [(3, 48)] (by kernel_rfl) (fun w' hw' => ?_) ?_
  · intro x48 q48
    obtain ⟨a48, b48, e48, h48, k48⟩ : ∃ a b, x48 = .tuple #[.agg #[a, b], .int .i64 20] ∧ Sl (encS encI) TT w' a [] ∧ Sl encI TT w' b [] := q48
    subst e48
    refine ask_do rfl fun K hK => ?_
    go_simp
    exact hK _ _ rfl ⟨_, _, rfl, h48, k48⟩ (World.grownBy.refl _ none)
  -- op 5 (slot 53): extract
  refine MonoR.step (Pv.eq (.int .i64 20)) [(3, 48)] (by kernel_rfl) (fun w' hw' => ?_) ?_
  · intro x48 q48
    obtain ⟨a48, b48, e48, h48, k48⟩ : ∃ a b, x48 = .tuple #[.agg #[a, b], .int .i64 20] ∧ Sl (encS encI) TT w' a [] ∧ Sl encI TT w' b [] := q48
    subst e48
    refine ask_do rfl fun K hK => ?_
    go_simp
    exact hK _ _ rfl rfl (World.grownBy.refl _ none)
  intro w10 hww10
  intro _ _
  intro _ _
  intro _ _
  intro _ _
  intro v52 h52'
  rintro _ rfl
  simp only [Act.put, List.setIfInBounds_toArray, List.set_cons_zero, List.set_cons_succ]
  have HBd : Hid (Bk w10 w2.heap.size 24 ps.cells) := Lib.hid (Bk.grown HB.out hww10 (by simp))
  have HGd : Hid (w.grownBy w10 none) := Lib.hid ((HG.out).trans hww10)
  have HS3d : Hid (Sl (encP) TT w10 v3 [(5, 2), (7, 5)]) := Lib.hid (Sl.kept HS3.out hww10)
  have HA46d : Hid (Sl (encS encI) TT w10 (.slice A46 n46 c46) [[1]]) := Lib.hid (Sl.kept HA46.out hww10)
  have HBB46d : Hid (Sl encI TT w10 (.slice D46 m46 d46) [(-1)]) := Lib.hid (Sl.kept HBB46.out hww10)
  have HM9d : Hid (Bk w10 w8.heap.size 59 #[.slice A46 n46 c46, .slice D46 m46 d46]) := Lib.hid (Bk.grown HM9.out hww10 (by simp))
  clear HB
  have HB := HBd
  clear HBd
  clear HG
  have HG := HGd
  clear HGd
  clear HS3
  have HS3 := HS3d
  clear HS3d
  clear HA46
  have HA46 := HA46d
  clear HA46d
  clear HBB46
  have HBB46 := HBB46d
  clear HBB46d
  clear HM9
  have HM9 := HM9d
  clear HM9d
  obtain ⟨a52, b52, e52, ha52, hb52⟩ := h52'
  subst e52
  have HA52 : Hid (Sl (encS encI) TT w10 a52 []) := Lib.hid ha52
  have HBB52 : Hid (Sl encI TT w10 b52 []) := Lib.hid hb52
  clear ha52 hb52
  clear hww10
  show wpList Tryd.prog _ _ _ _ w10
  obtain ⟨A52, n52, c52, rfl⟩ := HA52.out.shape
  obtain ⟨D52, m52, d52, rfl⟩ := HBB52.out.shape
  obtain ⟨w11, hww11⟩ : ∃ x, w10.alloc (.cells #[.slice A52 n52 c52, .slice D52 m52 d52] 59) = x := ⟨_, rfl⟩
  have HM11 : Hid (Bk w11 w10.heap.size 59 #[.slice A52 n52 c52, .slice D52 m52 d52]) := Lib.hid (by rw [← hww11]; exact Bk.new _ _ _)
  have HMG11 : Hid (w10.grownBy w11 none) := Lib.hid (by rw [← hww11]; exact World.grownBy_alloc _ _ none)
  have HBd : Hid (Bk w11 w2.heap.size 24 ps.cells) := Lib.hid (Bk.grown HB.out HMG11.out (by simp))
  have HGd : Hid (w.grownBy w11 none) := Lib.hid ((HG.out).trans HMG11.out)
  have HS3d : Hid (Sl (encP) TT w11 v3 [(5, 2), (7, 5)]) := Lib.hid (Sl.kept HS3.out HMG11.out)
  have HA46d : Hid (Sl (encS encI) TT w11 (.slice A46 n46 c46) [[1]]) := Lib.hid (Sl.kept HA46.out HMG11.out)
  have HBB46d : Hid (Sl encI TT w11 (.slice D46 m46 d46) [(-1)]) := Lib.hid (Sl.kept HBB46.out HMG11.out)
  have HM9d : Hid (Bk w11 w8.heap.size 59 #[.slice A46 n46 c46, .slice D46 m46 d46]) := Lib.hid (Bk.grown HM9.out HMG11.out (by simp))
  have HA52d : Hid (Sl (encS encI) TT w11 (.slice A52 n52 c52) []) := Lib.hid (Sl.kept HA52.out HMG11.out)
  have HBB52d : Hid (Sl encI TT w11 (.slice D52 m52 d52) []) := Lib.hid (Sl.kept HBB52.out HMG11.out)
  clear HB
  have HB := HBd
  clear HBd
  clear HG
  have HG := HGd
  clear HGd
  clear HS3
  have HS3 := HS3d
  clear HS3d
  clear HA46
  have HA46 := HA46d
  clear HA46d
  clear HBB46
  have HBB46 := HBB46d
  clear HBB46d
  clear HM9
  have HM9 := HM9d
  clear HM9d
  clear HA52
  have HA52 := HA52d
  clear HA52d
  clear HBB52
  have HBB52 := HBB52d
  clear HBB52d
  go_upto_region 8 with (fail)
  try rw [hww11]
  clear hww11
  refine wp_region_seqm 34 (by kernel_rfl) ?_
  -- op 0 (slot 54): move
  refine MonoR.step (Pv.eq (.int .i64 0)) [] (by kernel_rfl) (fun w' hw' => ?_) ?_
  · refine ask_do rfl fun K hK => ?_
    go_simp
    exact hK _ _ rfl rfl (World.grownBy.refl _ none)
  -- op 1 (slot 55): binOp
  refine MonoR.step (Pv.eq (.bool true)) [(0, 54)] (by kernel_rfl) (fun w' hw' => ?_) ?_
  · rintro _ rfl
    refine ask_do rfl fun K hK => ?_
    go_simp
    exact hK _ _ rfl rfl (World.grownBy.refl _ none)
  -- op 2 (slot 56): move
  refine MonoR.step (Pv.eq (.bool true)) [(1, 55)] (by kernel_rfl) (fun w' hw' => ?_) ?_
  · rintro _ rfl
    refine ask_do rfl fun K hK => ?_
    go_simp
    exact hK _ _ rfl rfl (World.grownBy.refl _ none)
  -- op 3 (slot 57): move
  refine MonoR.step (Pv.sl (encP) TT [(5, 2), (7, 5)]) [(2, 56)] (by kernel_rfl) (fun w' hw' => ?_) ?_
  · rintro _ rfl
    refine ask_do rfl fun K hK => ?_
    go_simp
    exact hK _ _ rfl (HS3.out.kept hw') (World.grownBy.refl _ none)
  -- op 4 (slot 58): build
  refine MonoR.step (Pv.eq (.agg #[.int .u64 5, .int .u64 2])) [(2, 56)] (by kernel_rfl) (fun w' hw' => ?_) ?_
  · rintro _ rfl
    refine ask_do rfl fun K hK => ?_
    go_simp
    exact hK _ _ rfl rfl (World.grownBy.refl _ none)
  -- op 5 (slot 59): build
  refine MonoR.step (Pv.eq (.agg #[.int .u64 7, .int .u64 5])) [(2, 56)] (by kernel_rfl) (fun w' hw' => ?_) ?_
  · rintro _ rfl
    refine ask_do rfl fun K hK => ?_
    go_simp
    exact hK _ _ rfl rfl (World.grownBy.refl _ none)
  -- op 6 (slot 60): buildSlice
  refine MonoR.step (Pv.sl (encP) TT [(5, 2), (7, 5)]) [(2, 56), (4, 58), (5, 59)] (by kernel_rfl) (fun w' hw' => ?_) ?_
  · rintro _ rfl
    rintro _ rfl
    rintro _ rfl
    refine ask_do rfl fun K hK => ?_
    go_simp
    exact hK _ _ rfl (Sl.build [[.int .u64 5, .int .u64 2], [.int .u64 7, .int .u64 5]] rfl ⟨⟨rfl, by decide, by decide⟩, ⟨rfl, by decide, by decide⟩, trivial⟩ rfl (by decide)) (World.grownBy_alloc w' _ none)
  -- op 7 (slot 61): call
  refine MonoR.step (Pv.eq (.bool true)) [(2, 56), (3, 57), (6, 60)] (by kernel_rfl) (fun w' hw' => ?_) ?_
  · rintro _ rfl
    intro x57 h57
    have h57 : Sl (encP) TT w' x57 [(5, 2), (7, 5)] := h57
    intro x60 h60
    have h60 : Sl (encP) TT w' x60 [(5, 2), (7, 5)] := h60
    refine ask_do rfl fun K hK => ?_
    go_simp
    refine (same_eq _ _ [(5, 2), (7, 5)] TT TT w' h57 h60).mono ?_
    rintro e w3 ⟨rfl, m3, rfl⟩
    exact hK _ _ rfl rfl (grown_drewN' w' m3)
  -- op 8 (slot 62): pick
  refine MonoR.step (Pv.eq (.bool true)) [(2, 56), (7, 61)] (by kernel_rfl) (fun w' hw' => ?_) ?_
  · rintro _ rfl
    rintro _ rfl
    refine ask_do rfl fun K hK => ?_
    go_simp
    exact hK _ _ rfl rfl (World.grownBy.refl _ none)
  -- op 9 (slot 63): move
  refine MonoR.step (Pv.eq (.bool true)) [(8, 62)] (by kernel_rfl) (fun w' hw' => ?_) ?_
  · rintro _ rfl
    refine ask_do rfl fun K hK => ?_
    go_simp
    exact hK _ _ rfl rfl (World.grownBy.refl _ none)
  -- op 10 (slot 64): move
  refine MonoR.step (Pv.eq (.int .i64 6)) [(9, 63)] (by kernel_rfl) (fun w' hw' => ?_) ?_
  · rintro _ rfl
    refine ask_do rfl fun K hK => ?_
    go_simp
    exact hK _ _ rfl rfl (World.grownBy.refl _ none)
  -- op 11 (slot 65): binOp
  refine MonoR.step (Pv.eq (.bool true)) [(9, 63), (10, 64)] (by kernel_rfl) (fun w' hw' => ?_) ?_
  · rintro _ rfl
    rintro _ rfl
    refine ask_do rfl fun K hK => ?_
    go_simp
    exact hK _ _ rfl rfl (World.grownBy.refl _ none)
  -- op 12 (slot 66): pick
  refine MonoR.step (Pv.eq (.bool true)) [(9, 63), (11, 65)] (by kernel_rfl) (fun w' hw' => ?_) ?_
  · rintro _ rfl
    rintro _ rfl
    refine ask_do rfl fun K hK => ?_
    go_simp
    exact hK _ _ rfl rfl (World.grownBy.refl _ none)
  -- op 13 (slot 67): move
  refine MonoR.step (Pv.eq (.bool true)) [(12, 66)] (by kernel_rfl) (fun w' hw' => ?_) ?_
  · rintro _ rfl
    refine ask_do rfl fun K hK => ?_
    go_simp
    exact hK _ _ rfl rfl (World.grownBy.refl _ none)
  -- op 14 (slot 68): move
  refine MonoR.step (Pv.eq (.int .i64 1)) [(13, 67)] (by kernel_rfl) (fun w' hw' => ?_) ?_
  · rintro _ rfl
    refine ask_do rfl fun K hK => ?_
    go_simp
    exact hK _ _ rfl rfl (World.grownBy.refl _ none)
  -- op 15 (slot 69): binOp
  refine MonoR.step (Pv.eq (.bool true)) [(13, 67), (14, 68)] (by kernel_rfl) (fun w' hw' => ?_) ?_
  · rintro _ rfl
    rintro _ rfl
    refine ask_do rfl fun K hK => ?_
    go_simp
    exact hK _ _ rfl rfl (World.grownBy.refl _ none)
  -- op 16 (slot 70): pick
  refine MonoR.step (Pv.eq (.bool true)) [(13, 67), (15, 69)] (by kernel_rfl) (fun w' hw' => ?_) ?_
  · rintro _ rfl
    rintro _ rfl
    refine ask_do rfl fun K hK => ?_
    go_simp
    exact hK _ _ rfl rfl (World.grownBy.refl _ none)
  -- op 17 (slot 71): move
  refine MonoR.step (Pv.eq (.bool true)) [(16, 70)] (by kernel_rfl) (fun w' hw' => ?_) ?_
  · rintro _ rfl
    refine ask_do rfl fun K hK => ?_
    go_simp
    exact hK _ _ rfl rfl (World.grownBy.refl _ none)
  -- op 18 (slot 72): move
  refine MonoR.step (Pv.eq (.int .i64 0)) [(17, 71)] (by kernel_rfl) (fun w' hw' => ?_) ?_
  · rintro _ rfl
    refine ask_do rfl fun K hK => ?_
    go_simp
    exact hK _ _ rfl rfl (World.grownBy.refl _ none)
  -- op 19 (slot 73): binOp
  refine MonoR.step (Pv.eq (.bool true)) [(17, 71), (18, 72)] (by kernel_rfl) (fun w' hw' => ?_) ?_
  · rintro _ rfl
    rintro _ rfl
    refine ask_do rfl fun K hK => ?_
    go_simp
    exact hK _ _ rfl rfl (World.grownBy.refl _ none)
  -- op 20 (slot 74): pick
  refine MonoR.step (Pv.eq (.bool true)) [(17, 71), (19, 73)] (by kernel_rfl) (fun w' hw' => ?_) ?_
  · rintro _ rfl
    rintro _ rfl
    refine ask_do rfl fun K hK => ?_
    go_simp
    exact hK _ _ rfl rfl (World.grownBy.refl _ none)
  -- op 21 (slot 75): move
  refine MonoR.step (Pv.eq (.bool true)) [(20, 74)] (by kernel_rfl) (fun w' hw' => ?_) ?_
  · rintro _ rfl
    refine ask_do rfl fun K hK => ?_
    go_simp
    exact hK _ _ rfl rfl (World.grownBy.refl _ none)
  -- op 22 (slot 76): load
  refine MonoR.step (Pv.model [[1]] [(-1)]) [(21, 75)] (by kernel_rfl) (fun w' hw' => ?_) ?_
  · rintro _ rfl
    refine ask_do rfl fun K hK => ?_
    have hm0 := (HM9.out.grown hw' (by simp)).cell 0
    have hm1 := (HM9.out.grown hw' (by simp)).cell 1
    simp at hm0 hm1
    go_simp
    exact hK _ _ rfl ⟨_, _, rfl, HA46.out.kept hw', HBB46.out.kept hw'⟩ (World.grownBy.refl _ none)
  -- op 23 (slot 77): buildSlice
  refine MonoR.step (Pv.sl (encI) TT [1]) [(21, 75)] (by kernel_rfl) (fun w' hw' => ?_) ?_
  · rintro _ rfl
    refine ask_do rfl fun K hK => ?_
    go_simp
    exact hK _ _ rfl (Sl.build [[.int .i64 1]] rfl ⟨⟨rfl, ⟨by decide, by decide⟩⟩, trivial⟩ rfl (by decide)) (World.grownBy_alloc w' _ none)
  -- op 24 (slot 78): buildSlice
  refine MonoR.step (Pv.sl (encS encI) TT [[1]]) [(21, 75), (23, 77)] (by kernel_rfl) (fun w' hw' => ?_) ?_
  · rintro _ rfl
    intro x77 h77
    have h77 : Sl (encI) TT w' x77 [1] := h77
    obtain ⟨A77, c77, e77, k77, l77⟩ := h77.form
    have e77 : x77 = .slice A77 1 c77 := e77
    subst e77
    refine ask_do rfl fun K hK => ?_
    go_simp
    exact hK _ _ rfl (Sl.build [[.slice A77 1 c77]] rfl ⟨⟨_, rfl, h77⟩, trivial⟩ rfl (by decide)) (World.grownBy_alloc w' _ none)
  -- op 25 (slot 79): buildSlice
  refine MonoR.step (Pv.sl (encI) TT [(-1)]) [(21, 75)] (by kernel_rfl) (fun w' hw' => ?_) ?_
  · rintro _ rfl
    refine ask_do rfl fun K hK => ?_
    go_simp
    exact hK _ _ rfl (Sl.build [[.int .i64 (-1)]] rfl ⟨⟨rfl, ⟨by decide, by decide⟩⟩, trivial⟩ rfl (by decide)) (World.grownBy_alloc w' _ none)
  -- op 26 (slot 80): build
  refine MonoR.step (Pv.model [[1]] [(-1)]) [(21, 75), (24, 78), (25, 79)] (by kernel_rfl) (fun w' hw' => ?_) ?_
  · rintro _ rfl
    intro x78 h78
    have h78 : Sl (encS encI) TT w' x78 [[1]] := h78
    obtain ⟨A78, c78, e78, k78, l78⟩ := h78.form
    have e78 : x78 = .slice A78 1 c78 := e78
    subst e78
    intro x79 h79
    have h79 : Sl (encI) TT w' x79 [(-1)] := h79
    obtain ⟨A79, c79, e79, k79, l79⟩ := h79.form
    have e79 : x79 = .slice A79 1 c79 := e79
    subst e79
    refine ask_do rfl fun K hK => ?_
    go_simp
    exact hK _ _ rfl ⟨_, _, rfl, h78, h79⟩ (World.grownBy.refl _ none)
  -- op 27 (slot 81): call
  refine MonoR.step (Pv.eq (.bool true)) [(21, 75), (22, 76), (26, 80)] (by kernel_rfl) (fun w' hw' => ?_) ?_
  · rintro _ rfl
    intro x76 q76
    obtain ⟨a76, b76, e76, h76, k76⟩ : ∃ a b, x76 = .agg #[a, b] ∧ Sl (encS encI) TT w' a [[1]] ∧ Sl encI TT w' b [(-1)] := q76
    subst e76
    intro x80 q80
    obtain ⟨a80, b80, e80, h80, k80⟩ : ∃ a b, x80 = .agg #[a, b] ∧ Sl (encS encI) TT w' a [[1]] ∧ Sl encI TT w' b [(-1)] := q80
    subst e80
    refine ask_do rfl fun K hK => ?_
    go_simp
    refine (models_eq _ _ _ _ [[1]] [(-1)] TT TT TT TT w' h76 k76 h80 k80).mono ?_
    rintro e w3 ⟨rfl, hg⟩
    exact hK _ _ rfl rfl hg
  -- op 28 (slot 82): pick
  refine MonoR.step (Pv.eq (.bool true)) [(21, 75), (27, 81)] (by kernel_rfl) (fun w' hw' => ?_) ?_
  · rintro _ rfl
    rintro _ rfl
    refine ask_do rfl fun K hK => ?_
    go_simp
    exact hK _ _ rfl rfl (World.grownBy.refl _ none)
  -- op 29 (slot 83): move
  refine MonoR.step (Pv.eq (.bool true)) [(28, 82)] (by kernel_rfl) (fun w' hw' => ?_) ?_
  · rintro _ rfl
    refine ask_do rfl fun K hK => ?_
    go_simp
    exact hK _ _ rfl rfl (World.grownBy.refl _ none)
  -- op 30 (slot 84): move
  refine MonoR.step (Pv.eq (.int .i64 20)) [(29, 83)] (by kernel_rfl) (fun w' hw' => ?_) ?_
  · rintro _ rfl
    refine ask_do rfl fun K hK => ?_
    go_simp
    exact hK _ _ rfl rfl (World.grownBy.refl _ none)
  -- op 31 (slot 85): binOp
  refine MonoR.step (Pv.eq (.bool true)) [(29, 83), (30, 84)] (by kernel_rfl) (fun w' hw' => ?_) ?_
  · rintro _ rfl
    rintro _ rfl
    refine ask_do rfl fun K hK => ?_
    go_simp
    exact hK _ _ rfl rfl (World.grownBy.refl _ none)
  -- op 32 (slot 86): pick
  refine MonoR.step (Pv.eq (.bool true)) [(29, 83), (31, 85)] (by kernel_rfl) (fun w' hw' => ?_) ?_
  · rintro _ rfl
    rintro _ rfl
    refine ask_do rfl fun K hK => ?_
    go_simp
    exact hK _ _ rfl rfl (World.grownBy.refl _ none)
  -- op 33 (slot 0): assign
  refine MonoR.step (Pv.eq (.bool true)) [(32, 86)] (by kernel_rfl) (fun w' hw' => ?_) ?_
  · rintro _ rfl
    refine ask_do rfl fun K hK => ?_
    go_simp
    exact hK _ _ rfl rfl (World.grownBy.refl _ none)
  intro w12 hww12
  intro _ _
  intro _ _
  intro _ _
  intro _ _
  intro _ _
  intro _ _
  intro _ _
  intro _ _
  intro _ _
  intro _ _
  intro _ _
  intro _ _
  intro _ _
  intro _ _
  intro _ _
  intro _ _
  intro _ _
  intro _ _
  intro _ _
  intro _ _
  intro _ _
  intro _ _
  intro _ _
  intro _ _
  intro _ _
  intro _ _
  intro _ _
  intro _ _
  intro _ _
  intro _ _
  intro _ _
  intro _ _
  intro _ _
  rintro _ rfl
  simp only [Act.put, List.setIfInBounds_toArray, List.set_cons_zero, List.set_cons_succ]
  have HBd : Hid (Bk w12 w2.heap.size 24 ps.cells) := Lib.hid (Bk.grown HB.out hww12 (by simp))
  have HGd : Hid (w.grownBy w12 none) := Lib.hid ((HG.out).trans hww12)
  have HS3d : Hid (Sl (encP) TT w12 v3 [(5, 2), (7, 5)]) := Lib.hid (Sl.kept HS3.out hww12)
  have HA46d : Hid (Sl (encS encI) TT w12 (.slice A46 n46 c46) [[1]]) := Lib.hid (Sl.kept HA46.out hww12)
  have HBB46d : Hid (Sl encI TT w12 (.slice D46 m46 d46) [(-1)]) := Lib.hid (Sl.kept HBB46.out hww12)
  have HM9d : Hid (Bk w12 w8.heap.size 59 #[.slice A46 n46 c46, .slice D46 m46 d46]) := Lib.hid (Bk.grown HM9.out hww12 (by simp))
  have HA52d : Hid (Sl (encS encI) TT w12 (.slice A52 n52 c52) []) := Lib.hid (Sl.kept HA52.out hww12)
  have HBB52d : Hid (Sl encI TT w12 (.slice D52 m52 d52) []) := Lib.hid (Sl.kept HBB52.out hww12)
  clear HB
  have HB := HBd
  clear HBd
  clear HG
  have HG := HGd
  clear HGd
  clear HS3
  have HS3 := HS3d
  clear HS3d
  clear HA46
  have HA46 := HA46d
  clear HA46d
  clear HBB46
  have HBB46 := HBB46d
  clear HBB46d
  clear HM9
  have HM9 := HM9d
  clear HM9d
  clear HA52
  have HA52 := HA52d
  clear HA52d
  clear HBB52
  have HBB52 := HBB52d
  clear HBB52d
  clear hww12
  refine wpList_nil ?_
  go_wp2
  go_ret
  exact ⟨rfl, HG.out⟩
end Go.Proofs.YtmjdpmfcbeaecaaDoor

namespace Go.Proofs.YtmjdpmfcbeaecaaDoor
open Go Go.RowKit

/-- The number at place a, as the statement draws it. -/
def num (l : List Int) (a : Nat) : Int := if 0 < l.length then l[a % l.length]?.getD 0 else (a : Int)
set_option maxHeartbeats 1000000 in
theorem next_any (l : List Int) (n : Nat) (hnl : n = l.length) (A : Option Addr) (c B9 B5 a : Nat) (W : World) (ha : a ≤ 100000) (h9 : Bk W B9 3 #[.int .i64 a]) (h5 : Bk W B5 37 #[.slice A n c]) (hl : Sl encU TT W (.slice A n c) l) (hn : l.length ≤ 300) :
    Calls Tryd.prog 16 #[.pointer (some ⟨B9, 0, none⟩), .pointer (some ⟨B5, 0, none⟩)] W fun e w' => e = .returned (.int .u64 (num l a)) ∧ W.grownBy w' (some B9) ∧ Bk w' B9 3 #[.int .i64 ((a + 1 : Nat) : Int)] := by
  subst hnl
  have hc9 := h9.cell 0
  have hc5 := h5.cell 0
  have hf9 := h9.free 0
  simp at hc9 hc5
  have q1 : IntKind.u64.wrap (a : Int) = (a : Int) := IntWalk.u64_in _ (by omega)
  have HFIN : Hid (∀ k, W.grownBy ((W.drewN k).setCell ⟨B9, 0, none⟩ (.int .i64 ((a : Int) + 1))) (some B9) ∧ Bk ((W.drewN k).setCell ⟨B9, 0, none⟩ (.int .i64 ((a : Int) + 1))) B9 3 #[.int .i64 ((a + 1 : Nat) : Int)]) := Lib.hid (fun k => ⟨((grownBy_drewN (World.grownBy.refl W none) k).but _).trans (grownBy_set (World.grownBy.refl _ (some B9)) 0 _), by
    have := (h9.drewN k).set 0 (.int .i64 ((a : Int) + 1))
    simpa using this⟩)
  by_cases h0 : 0 < l.length
  · have hk : a % l.length < l.length := Nat.mod_lt _ h0
    obtain ⟨kq, hkq⟩ : ∃ q, q = a % l.length := ⟨_, rfl⟩
    have hnum : num l a = l[a % l.length] := by rw [num, if_pos h0, List.getElem?_eq_getElem hk]; rfl
    obtain ⟨g, o, c', e, _, _, h1, hu⟩ := hl.atU hk
    have hI : (0 : Int) < (l.length : Int) := by omega
    have hkI : (kq : Int) < (l.length : Int) := by rw [hkq]; omega
    have d1 : Int.tmod (a : Int) (l.length : Int) = (kq : Int) := by rw [Int.tmod_eq_emod_of_nonneg (by omega), hkq]; exact (Int.natCast_emod a l.length).symm
    have d2 : (a : Int) % (l.length : Int) = (kq : Int) := by rw [hkq]; exact (Int.natCast_emod a l.length).symm
    have hnz : ¬ (l.length : Int) = 0 := by omega
    rw [hnum]
    generalize hx : l[a % l.length] = x at *
    rw [← hkq] at h1
    injection e with e1 e2 e3
    subst e1 e3
    clear hl h9 h5 hk hnum hkq hx e2 hu h0
    generalize l.length = n at *
    go_enter Tryd.func16, Tryd.ntmps16
    go_wp2_with fail
    go_quiet (fail)
    go_wp2
    go_ret
    exact ⟨rfl, HFIN.out _⟩
  · have hnum : num l a = (a : Int) := by rw [num, if_neg h0]
    have hI : ¬ (l.length : Int) > 0 := by omega
    rw [hnum]
    clear hl h9 h5 hnum h0
    generalize l.length = n at *
    go_enter Tryd.func16, Tryd.ntmps16
    go_wp2
    go_ret
    exact ⟨rfl, HFIN.out 0⟩
end Go.Proofs.YtmjdpmfcbeaecaaDoor

namespace Go.Proofs.YtmjdpmfcbeaecaaDoor
open Go

section
variable {P : Program} {ops : Array Oper} {md : Region.Mode} {C : World → Prop} {n : Nat}

/-- Whatever row those below n are taken in; behind f of them, Q. -/
def AnyRow (P : Program) (md : Region.Mode) (ops : Array Oper) (C : World → Prop) (n : Nat) (Q : Array Bool → Act → Prop) : Nat → Array Bool → Act → Prop
  | 0, done, a => Q done a
  | f + 1, done, a => Region.ready md ops done ≠ [] ∧ ∀ i ∈ Region.ready md ops done, i < n ∧ qOp P ops C i (AnyRow P md ops C n Q f (done.setIfInBounds i true)) a

theorem AnyRow.run {Q : Array Bool → Act → Prop} {R : Exit → Act → World → Prop} {g : Nat} (hQ : ∀ done a w, C w → Q done a → wpAny P md ops R g done a w) :
    ∀ (f : Nat) (done : Array Bool) (a : Act) (w : World), C w → AnyRow P md ops C n Q f done a → wpAny P md ops R (f + g) done a w := by
  intro f
  induction f with
  | zero => intro done a w hw h; rw [Nat.zero_add]; exact hQ _ _ _ hw h
  | succ f ih =>
    intro done a w hw h
    rw [show f + 1 + g = (f + g) + 1 by omega]
    exact ⟨fun e => absurd e h.1, fun i hi => wpOp_of_qOp hw (fun a' w' hw' k => ih _ a' w' hw' k) (h.2 i hi).2⟩

/-- The operation n waits for each one ahead of it, and none stands behind it. -/
def waitsAll (md : Region.Mode) (ops : Array Oper) (n : Nat) : Bool := decide (ops.size = n + 1) && (List.range n).all fun i => Region.waitsFor md ops n i

theorem ready_below (h : waitsAll md ops n = true) {done : Array Bool} {i : Nat} (hi : i < n) (hu : done.getD i true = false) {t : Nat} (ht : t ∈ Region.ready md ops done) : t < n := by
  simp only [waitsAll, Bool.and_eq_true, decide_eq_true_eq] at h
  obtain ⟨_, o, ho, hall⟩ := mem_ready.1 ht
  have hlt : t < ops.size := (Array.getElem?_eq_some_iff.1 ho).1
  rcases Nat.lt_or_ge t n with h1 | h1
  · exact h1
  · have htn : t = n := by omega
    subst htn
    obtain ⟨o', ho', e, he, hb, hon⟩ := Region.waitsFor_spec (List.all_eq_true.1 h.2 i (List.mem_range.2 hi))
    have hoo : o' = o := Option.some.inj (ho'.symm.trans ho)
    subst hoo
    have := hall e he hb
    rw [hon, getD_both hu] at this
    cases this

/-- What may come first may as well come later. -/
theorem AnyRow.first {i : Nat} {oi : Oper} {v : Value} {Q : Array Bool → Act → Prop} (hi : ops[i]? = some oi) (hsel : ∀ (j : Nat) (o : Oper) cs b, ops[j]? = some o → o.op ≠ .select cs b) (hW : waitsAll md ops n = true) (hin : i < n)
    (hend : ∀ done a, Q done a → ∀ j ∈ Region.ready md ops done, n ≤ j) :
    ∀ (f : Nat) (done : Array Bool) (a : Act),
      (∀ j oj, ops[j]? = some oj → j ≠ i → done.getD j true = false → (∀ e ∈ oj.after, Region.binds md e = true → e.on ≠ i) → oi.apart ops oj = true) →
      i ∈ Region.ready md ops done → YieldsIn P ops C oi v a → AnyRow P md ops C n Q f (done.setIfInBounds i true) (a.put oi.dst v) → AnyRow P md ops C n Q (f + 1) done a := by
  intro f
  induction f with
  | zero =>
    intro done a _ hr hy H
    refine ⟨fun e => by rw [e] at hr; exact absurd hr (by simp), fun j hj => ⟨ready_below hW hin (mem_ready.1 hr).1 hj, ?_⟩⟩
    rcases Decidable.em (j = i) with e | e
    · subst e; exact hy.qOp hi H
    · have h1 := hend _ _ H j (ready_mono hj e)
      have h2 := ready_below hW hin (mem_ready.1 hr).1 hj
      omega
  | succ f ih =>
    intro done a hfree hr hy H
    refine ⟨fun e => by rw [e] at hr; exact absurd hr (by simp), fun j hj => ⟨ready_below hW hin (mem_ready.1 hr).1 hj, ?_⟩⟩
    rcases Decidable.em (j = i) with e | e
    · subst e; exact hy.qOp hi H
    · obtain ⟨hju, oj, hoj, hall⟩ := mem_ready.1 hj
      have hno : ∀ e ∈ oj.after, Region.binds md e = true → e.on ≠ i := fun e' he hb hx => by
        have := hall e' he hb
        rw [hx, getD_both (mem_ready.1 hr).1] at this
        cases this
      have step := qOp_put hoj (hfree j oj hoj e hju hno) (fun cs b => hsel i oi cs b hi) (fun cs b => hsel j oj cs b hoj) hy (H.2 j (ready_mono hj e)).2
      refine qOp_mono (fun a' k => ih (done.setIfInBounds j true) a' (fun m om hm hmi hmu hmn => hfree m om hm hmi ?_ hmn) (ready_mono hr (Ne.symm e)) k.1 ?_) step
      · rcases Decidable.em (j = m) with e' | e'
        · subst e'; exact hju
        · rwa [getD_set_ne true e'] at hmu
      · rw [Array.setIfInBounds_comm _ _ e]
        exact k.2

theorem AnyRow.lex {g : Nat} {Q : Act → Prop} (hsel : Region.noSelect ops = true) (hW : waitsAll md ops n = true) :
    ∀ (l : List Oper) (k : Nat) (done : Array Bool) (a : Act), (∀ j, j < l.length → l[j]? = ops[k + j]?) → k + l.length = n → Region.lexHead md ops g l.length k done = true → wpQuiet P ops C Q l a →
      AnyRow P md ops C n (fun done' a' => Region.seqB md ops g n done' = true ∧ Q a') l.length done a := by
  intro l
  induction l with
  | nil =>
    intro k done a _ hk hB h
    obtain rfl : k = n := by simpa using hk
    exact ⟨by simpa [Region.lexHead] using hB, h⟩
  | cons o l ih =>
    intro k done a hl hk hB h
    have h0 : ops[k]? = some o := by simpa using (hl 0 (by simp)).symm
    simp only [List.length_cons, Region.lexHead, Bool.and_eq_true] at hB
    simp only [List.length_cons] at hk
    have hq : qOp P ops C k (wpQuiet P ops C Q l) a := by unfold qOp; simp only [h0]; exact h
    obtain ⟨v, hy, hK⟩ := yieldsIn_of_qOp h0 hq
    exact AnyRow.first h0 (Region.noSelect_spec hsel) hW (by omega) (fun _ _ hd => seqB_ready hd.1) l.length done a (Region.free_spec h0 hB.1.2) (by simpa using hB.1.1) hy
      (ih (k + 1) _ _ (fun j hj => by have := hl (j + 1) (by simp; omega); simpa [Nat.add_assoc, Nat.add_comm 1 j] using this) (by omega) hB.2 hK)

def lastB (md : Region.Mode) (ops : Array Oper) (n : Nat) : Bool := Region.noSelect ops && waitsAll md ops n && Region.lexHead md ops 1 n 0 (Array.replicate ops.size false)
/-- The law, whatever the class of worlds. -/
theorem wp_region_last {C : World → Prop} {id : Nat} {Q : Exit → Act → World → Prop} {a : Act} {w : World} {l : List Oper} (n : Nat) (hm : P.follows .mixedOrders = true) (hB : lastB .any l.toArray n = true) (hC : C (w.drewN 1))
    (h : wpQuiet P l.toArray C (fun a' => ∀ w', C w' → wpList P l.toArray Q (l.drop n) a' w') (l.take n) a) : (Code.region id l.toArray true).wp P Q a w := by
  simp only [lastB, Bool.and_eq_true] at hB
  obtain ⟨⟨hsel, hW⟩, hlex⟩ := hB
  have hsz : l.toArray.size = n + 1 := by
    have := hW
    simp only [waitsAll, Bool.and_eq_true, decide_eq_true_eq] at this
    exact this.1
  have hsz' : l.length = n + 1 := by simpa using hsz
  have htl : (l.take n).length = n := by simp; omega
  have hdl : (l.drop n).length = 1 := by simp; omega
  have H := AnyRow.lex (C := C) (md := .any) (g := 1) hsel hW (l.take n) 0 _ a (fun j hj => by
    have hj' : j < n := by rw [htl] at hj; exact hj
    simp [hj']) (by simpa using htl) (by rw [htl]; exact hlex) h
  refine wp_region_any hm ?_
  have := AnyRow.run (R := Q) (g := 1) (fun done a' w' hw' hd => by
    have := wpAny_of_seq (md := .any) (Q' := Q) (l.drop n) n done a' w' (fun j => by simp [List.getElem?_drop]) (by rw [hdl]; exact hd.1) (hd.2 w' hw')
    rwa [hdl] at this) _ _ _ _ hC H
  rw [htl, ← hsz] at this
  exact this
/-- One operation of such a region: it yields v in every world of the class. -/
theorem wpQuiet_val {C : World → Prop} {Q : Act → Prop} {o : Oper} {rest : List Oper} {a : Act} (hgd : o.guard = none) (v : Value) (hv : ∀ w, C w → o.quietAt P a C w v) (h : wpQuiet P ops C Q rest (a.put o.dst v)) : wpQuiet P ops C Q (o :: rest) a := by
  refine wpQuiet_step fun K hK => ?_
  rw [if_pos (by simp [Region.wanted, hgd])]
  exact ⟨v, hv, hK _ h⟩
/-- The law. -/
theorem wp_region_quiet_last {id : Nat} {Q : Exit → Act → World → Prop} {a : Act} {w : World} {l : List Oper} (n : Nat) (hm : P.follows .mixedOrders = true) (hB : lastB .any l.toArray n = true)
    (h : wpQuiet P l.toArray (fun w' => ∃ k, w' = w.drewN k) (fun a' => ∀ w', (∃ k, w' = w.drewN k) → wpList P l.toArray Q (l.drop n) a' w') (l.take n) a) : (Code.region id l.toArray true).wp P Q a w := by
  simp only [lastB, Bool.and_eq_true] at hB
  obtain ⟨⟨hsel, hW⟩, hlex⟩ := hB
  have hsz : l.toArray.size = n + 1 := by
    have := hW
    simp only [waitsAll, Bool.and_eq_true, decide_eq_true_eq] at this
    exact this.1
  have hsz' : l.length = n + 1 := by simpa using hsz
  have htl : (l.take n).length = n := by simp; omega
  have hdl : (l.drop n).length = 1 := by simp; omega
  have H := AnyRow.lex (C := fun w' => ∃ k, w' = w.drewN k) (md := .any) (g := 1) hsel hW (l.take n) 0 _ a (fun j hj => by
    have hj' : j < n := by rw [htl] at hj; exact hj
    simp [hj']) (by simpa using htl) (by rw [htl]; exact hlex) h
  refine wp_region_any hm ?_
  have := AnyRow.run (R := Q) (g := 1) (fun done a' w' hw' hd => by
    have := wpAny_of_seq (md := .any) (Q' := Q) (l.drop n) n done a' w' (fun j => by simp [List.getElem?_drop]) (by rw [hdl]; exact hd.1) (hd.2 w' hw')
    rwa [hdl] at this) _ _ _ _ ⟨1, rfl⟩ H
  rw [htl, ← hsz] at this
  exact this
end
end Go.Proofs.YtmjdpmfcbeaecaaDoor

namespace Go.Proofs.YtmjdpmfcbeaecaaDoor
open Go Go.RowKit

/-- The polynomials of dealer k, secret s, as the statement draws them. -/
def polyL (l : List Int) (nn t k s : Nat) : List (Int × Int) := (List.range t).map fun j => (num l (2 * ((k * nn + s) * t + j)), num l (2 * ((k * nn + s) * t + j) + 1))
theorem info_dealt2 : (Tryd.prog.info? 41).map (fun i => (i.zero, i.size, i.bytes)) = some (some (.agg #[.int .i64 0, .slice none 0 0]), 2, 32) := by kernel_rfl
theorem el_dealt2 : ElemOk Tryd.prog 33 41 2 32 := ElemOk.mk' (by decide) Tryd.underlying33 info_dealt2 rfl
theorem mapr_snoc2 {α : Type} (f : Nat → α) (n : Nat) : (List.range (n + 1)).map f = (List.range n).map f ++ [f n] := by simp [List.range_succ]
theorem num_U64 {l : List Int} {X : Nat → Prop} {w : World} {v : Value} (h : Sl encU X w v l) {a : Nat} (ha : a ≤ 100000) : U64 (num l a) := by
  unfold num
  split
  · rename_i h0
    have hk : a % l.length < l.length := Nat.mod_lt _ h0
    obtain ⟨_, _, _, _, _, _, _, u⟩ := h.atU hk
    rw [List.getElem?_eq_getElem hk]
    exact u
  · exact ⟨by omega, by omega⟩
theorem num_pos {l : List Int} {X : Nat → Prop} {w : World} {v : Value} (h : Sl encU X w v l) (a : Nat) : 0 ≤ num l a := by
  unfold num
  split
  · rename_i h0
    have hk : a % l.length < l.length := Nat.mod_lt _ h0
    obtain ⟨_, _, _, _, _, _, _, u⟩ := h.atU hk
    rw [List.getElem?_eq_getElem hk]
    exact u.1
  · omega
theorem polyL_pos {l : List Int} {X : Nat → Prop} {w : World} {v : Value} (h : Sl encU X w v l) (nn t k s : Nat) : ∀ y ∈ polyL l nn t k s, 0 ≤ y.1 ∧ 0 ≤ y.2 := by
  intro y hy
  obtain ⟨j, _, rfl⟩ := List.mem_map.1 (show y ∈ (List.range t).map fun j => (num l (2 * ((k * nn + s) * t + j)), num l (2 * ((k * nn + s) * t + j) + 1)) from hy)
  exact ⟨num_pos h _, num_pos h _⟩
theorem coms_len {p : Par} {ds : List (Int × List (List Int))} (h : secretsI p ≤ 100000) : (comsL p ds).length ≤ 100000 := by
  unfold comsL
  split
  · rw [List.length_map, List.length_range]; omega
  · simp
theorem sum_len {p : Par} {a : List Int} {l : List (List (Int × Int))} (h : secretsI p ≤ 100000) : (sumL p a l).length ≤ 100000 := by
  unfold sumL
  split
  · rw [List.length_map, List.length_range]; omega
  · simp
theorem polyL_len (l : List Int) (nn t k s : Nat) : (polyL l nn t k s).length = t := by simp [polyL]
theorem polyL_at (l : List Int) (nn t k s j : Nat) (h : j < (polyL l nn t k s).length) : (polyL l nn t k s)[j] = (num l (2 * ((k * nn + s) * t + j)), num l (2 * ((k * nn + s) * t + j) + 1)) := by simp [polyL]
theorem val_step (Q i : Int) (l : List (Int × Int)) (j : Nat) (h : j < l.length) (v : Int × Int) (e : Int) : valGo Q i (l.drop j) v e = valGo Q i (l.drop (j + 1)) (addI v.1 (mulI l[j].1 e Q) Q, addI v.2 (mulI l[j].2 e Q) Q) (mulI e i Q) := by
  rw [List.drop_eq_getElem_cons h]
  rfl
theorem Tri.keep {α β γ : Type} {E : Enc α} {F : Enc β} {G : Enc γ} {base : Nat} {e f g : TypeId} {Z : Nat → Prop} {w w' : World} {v u t : Value} {xs : List α} {ys : List β} {zs : List γ} {row : Option Nat} (h : Tri E F G base e f g Z w v u t xs ys zs) (hg : w.grownBy w' row) (hZ : ∀ b, Z b → some b ≠ row) : Tri E F G base e f g Z w' v u t xs ys zs := ⟨h.fst.keep hg fun b hb => hZ b hb.1, h.snd.keep hg fun b hb => hZ b hb.1, h.trd.keep hg fun b hb => hZ b hb.1⟩
theorem Tri.near {α β γ : Type} {E : Enc α} {F : Enc β} {G : Enc γ} {base : Nat} {e f g : TypeId} {Z : Nat → Prop} {w : World} {v u t : Value} {xs : List α} {ys : List β} {zs : List γ} (h : Tri E F G base e f g Z w v u t xs ys zs) {b : Nat} (hb : w.heap.size ≤ b) : some b ≠ v.ownBlock ∧ some b ≠ u.ownBlock ∧ some b ≠ t.ownBlock := ⟨fun e => by have := (h.fst.lt b e.symm).2; omega, fun e => by have := (h.snd.lt b e.symm).2; omega, fun e => by have := (h.trd.lt b e.symm).2; omega⟩
theorem take_snoc {α β : Type} (f : α → β) (l : List α) (j : Nat) (h : j < l.length) : (l.take (j + 1)).map f = (l.take j).map f ++ [f l[j]] := by
  rw [List.take_succ_eq_append_getElem h, List.map_append]
  rfl
theorem fit_coms (p : Par) (nn : Nat) (f : Nat → List (Int × Int)) : comsI p ((List.range nn).map fun s => (f s).map (·.1)) ((List.range nn).map fun s => (f s).map (·.2)) = (List.range nn).map fun s => (f s).map (commitI p) := by
  simp only [comsI, zipS, List.length_map, List.length_range, Nat.max_self, List.map_map]
  refine List.map_congr_left fun s hs => ?_
  have h := List.mem_range.1 hs
  show comI p ((((List.range nn).map fun s => (f s).map (·.1))[s]?).getD [], (((List.range nn).map fun s => (f s).map (·.2))[s]?).getD []) = _
  rw [getD_range _ _ h, getD_range _ _ h]
  simp only [comI, zipU, List.length_map, Nat.max_self, List.map_map]
  refine List.ext_getElem (by simp) fun j j1 j2 => ?_
  simp only [List.length_map] at j2
  simp [List.getElem?_eq_getElem j2]
set_option maxRecDepth 100000 in
set_option maxHeartbeats 8000000 in
theorem sfits_any (p : Par) (v : Value) (l : List Int) (i many : Int) (w : World) (hp : p.ok) (h : Sl encU (fun _ => True) w v l) (hi : U64 i) (_hmn : I64 many) (hT : TabsAt w) :
    Calls Tryd.prog 4 #[p.v, v, .int .u64 i, .int .i64 many] w fun e w' => e = .returned (.bool true) ∧ w.grownBy w' none := by
  have HP := Lib.hid hp
  have HL := Lib.hid h
  have HI := Lib.hid hi
  obtain ⟨A, c, rfl, hl1, hl2⟩ := h.form
  have HM := Lib.hid (fun (w' : World) (hg : w.grownBy w' none) => may_any p w' hp (hT.kept hg))
  clear h hp hi hT
  obtain ⟨n, hnl⟩ : ∃ n, n = l.length := ⟨_, rfl⟩
  have HNL := Lib.hid hnl
  rw [← hnl] at hl1 HL ⊢
  have HB0 : Hid (Bk ((w.alloc (Obj.cells p.cells 24)).alloc (Obj.cells #[.slice A n c] 37)) w.heap.size 24 p.cells) := Lib.hid ((Bk.new w _ _).alloc _)
  have HB5 : Hid (Bk ((w.alloc (Obj.cells p.cells 24)).alloc (Obj.cells #[.slice A n c] 37)) (w.heap.size + 1) 37 #[.slice A n c]) := Lib.hid (by
    have h := Bk.new (w.alloc (Obj.cells p.cells 24)) 37 #[.slice A n c]
    rw [World.size_alloc] at h
    exact h)
  have HG0 : Hid (w.grownBy ((w.alloc (Obj.cells p.cells 24)).alloc (Obj.cells #[.slice A n c] 37)) none) := Lib.hid grown_two
  cases hm : mayP p with
  | false =>
    rw [hm] at HM
    clear hm hnl
    go_enter Tryd.func4, Tryd.ntmps4
    go_wp2_with fail
    refine (works20_any _).mono ?_
    rintro e w1 ⟨rfl, hg⟩
    have HG1 := hidTrans hg HG0
    have hp1 := (bkGrown hg HB0).out.prule
    clear hg
    go_wp2_with fail
    refine (HM.out _ HG1.out).mono ?_
    rintro e w2 ⟨rfl, hg⟩
    have HG2 := hidTrans hg HG1
    clear hg
    go_wp2_with fail
    refine (works20_any _).mono ?_
    rintro e w3 ⟨rfl, hg⟩
    have HG3 := hidTrans hg HG2
    clear hg hp1
    go_wp2
    go_ret
    exact ⟨rfl, HG3.out⟩
  | true =>
    rw [hm] at HM
    by_cases hbig : n > 300
    · have hbI : (n : Int) > 300 := by omega
      clear hm hbig hnl
      go_enter Tryd.func4, Tryd.ntmps4
      go_wp2_with fail
      refine (works20_any _).mono ?_
      rintro e w1 ⟨rfl, hg⟩
      have HG1 := hidTrans hg HG0
      have hp1 := (bkGrown hg HB0).out.prule
      have HB51 := bkGrown hg HB5
      clear hg
      go_wp2_with fail
      refine (HM.out _ HG1.out).mono ?_
      rintro e w2 ⟨rfl, hg⟩
      have HG2 := hidTrans hg HG1
      have hl2' := (bkGrown hg HB51).out.cell 0
      simp at hl2'
      clear hg
      go_wp2_with fail
      refine (works20_any _).mono ?_
      rintro e w3 ⟨rfl, hg⟩
      have HG3 := hidTrans hg HG2
      clear hg hp1
      go_wp2
      go_ret
      exact ⟨rfl, HG3.out⟩
    · have hbI : (n : Int) ≤ 300 := by omega
      have HSM : Hid (l.length ≤ 300) := Lib.hid (by omega)
      have HMAY := Lib.hid hm
      obtain ⟨hq, hP, ha, n1, n2, n3, t1, t2, t3, hs, k1, d1⟩ := may_apart hm
      obtain ⟨rm, hrm⟩ : ∃ r, r = (many % 18446744073709551616) % p.N := ⟨_, rfl⟩
      have r1 : 0 ≤ rm := by rw [hrm]; exact Int.emod_nonneg _ (by omega)
      have r2 : rm < p.N := by rw [hrm]; exact Int.emod_lt_of_pos _ (by omega)
      have e1 : IntKind.u64.wrap many = many % 18446744073709551616 := rfl
      have e2 : IntKind.u64.wrap p.N = p.N := IntWalk.u64_in _ (by omega)
      have e3 : Int.tmod (many % 18446744073709551616) p.N = rm := by rw [hrm]; exact Int.tmod_eq_emod_of_nonneg (by omega)
      have e7 : many % 18446744073709551616 % p.N = rm := hrm.symm
      have e4 : IntKind.i64.wrap rm = rm := IntWalk.i64_in _ (by omega)
      have e5 : IntKind.i64.wrap (1 + rm) = 1 + rm := IntWalk.i64_in _ (by omega)
      obtain ⟨kk, hkk⟩ : ∃ k : Nat, (k : Int) = 1 + rm := ⟨(1 + rm).toNat, by omega⟩
      have e6 : 1 + rm = (kk : Int) := hkk.symm
      have hnz : (p.N == 0) = false := by simp; omega
      have hnz2 : ¬ p.N = 0 := by omega
      have e8 : IntKind.i64.wrap (kk : Int) = (kk : Int) := IntWalk.i64_in _ (by omega)
      have HK : Hid (1 ≤ kk ∧ kk ≤ 7 ∧ (kk : Int) ≤ p.N) := Lib.hid (by omega)
      have hsec := smallB_secrets hs
      obtain ⟨nn, hnn⟩ : ∃ n : Nat, (n : Int) = secretsI p := ⟨(secretsI p).toNat, by omega⟩
      have HNN : Hid ((nn : Int) = secretsI p ∧ nn ≤ 10) := Lib.hid (by omega)
      obtain ⟨t, ht⟩ : ∃ t : Nat, (t : Int) = p.T + 1 := ⟨(p.T + 1).toNat, by omega⟩
      have HTT : Hid ((t : Int) = p.T + 1 ∧ t ≤ 3 ∧ 1 ≤ t) := Lib.hid (by omega)
      have HSEC := Lib.hid (secrets20_any p)
      rw [← hnn] at HSEC
      clear hm hbig hq hP ha n1 n2 n3 t1 t2 t3 hs k1 d1 hkk hsec hnn ht hrm hnl
      go_enter Tryd.func4, Tryd.ntmps4
      go_wp2_with fail
      refine (works20_any _).mono ?_
      rintro e w1 ⟨rfl, hg⟩
      have HG1 := hidTrans hg HG0
      have hp1 := (bkGrown hg HB0).out.prule
      have HB1 := bkGrown hg HB0
      have HB51 := bkGrown hg HB5
      clear hg
      go_wp2_with fail
      refine (HM.out _ HG1.out).mono ?_
      rintro e w2 ⟨rfl, hg⟩
      have HG2 := hidTrans hg HG1
      have HB2 := bkGrown hg HB1
      have HB52 := bkGrown hg HB51
      have hp2 := HB2.out.prule
      have hl2' := HB52.out.cell 0
      simp at hl2'
      clear hg hp1
      go_wp2_with fail
      obtain ⟨w9, hw9⟩ : ∃ y, y = w2.alloc (Obj.cells #[.int .i64 0] 3) := ⟨_, rfl⟩
      rw [← hw9]
      obtain ⟨B9, hB9⟩ : ∃ y, y = w2.heap.size := ⟨_, rfl⟩
      have H9 : Hid (Bk w9 B9 3 #[.int .i64 ((0 : Nat) : Int)]) := Lib.hid (by rw [hw9, hB9]; exact Bk.new _ _ _)
      have HG9 : Hid (w.grownBy w9 none) := Lib.hid (by rw [hw9]; exact HG2.out.trans (World.grownBy_alloc _ _ none))
      have HBp : Hid (Bk w9 w.heap.size 24 p.cells) := Lib.hid (by rw [hw9]; exact HB2.out.alloc _)
      have HBl : Hid (Bk w9 (w.heap.size + 1) 37 #[.slice A n c]) := Lib.hid (by rw [hw9]; exact HB52.out.alloc _)
      have HLT : Hid (w.heap.size + 1 < B9 ∧ B9 < w9.heap.size) := Lib.hid (by
        have h1 := HB52.out.lt
        rw [hw9, World.size_alloc, hB9]
        omega)
      rw [← hB9]
      have HLw : Hid (Sl encU (fun g => g < w.heap.size) w9 (.slice A n c) l) := Lib.hid ((HL.out.bounded.kept HG9.out).more fun _ _ x => x.2)
      clear hw9 hB9 HL HG0 HG1 HG2 HB0 HB1 HB2 HB5 HB51 HB52 hl2' hp2 HM e1 e2 e3 e4 e5 e6 e7 e8 hnz hnz2
      have HPX : Hid (∀ wx, w9.grownBy wx (some B9) → Bk wx w.heap.size 24 p.cells) := Lib.hid (fun wx g => HBp.out.grown g (fun e => by injection e with e; have := HLT.out.1; omega))
      have HNX : Hid (∀ wx (a : Nat), w9.grownBy wx (some B9) → Bk wx B9 3 #[.int .i64 a] → a ≤ 100000 → Calls Tryd.prog 16 #[.pointer (some ⟨B9, 0, none⟩), .pointer (some ⟨w.heap.size + 1, 0, none⟩)] wx fun e w' => e = .returned (.int .u64 (num l a)) ∧ wx.grownBy w' (some B9) ∧ Bk w' B9 3 #[.int .i64 ((a + 1 : Nat) : Int)]) := Lib.hid (fun wx a g hb ha => next_any l n HNL.out A c B9 (w.heap.size + 1) a wx ha hb (HBl.out.grown g (fun e => by injection e with e; have := HLT.out.1; omega)) ((HLw.out.keep g (fun b hb e => by injection e with e; have := HLT.out.1; omega)).more fun _ _ _ => trivial) HSM.out)
      have HNU : Hid (∀ a : Nat, a ≤ 100000 → U64 (num l a)) := Lib.hid (fun a ha => num_U64 HLw.out ha)
      have hk7 : kk ≤ 7 := HK.out.2.1
      have hn10 : nn ≤ 10 := HNN.out.2
      have ht3 : t ≤ 3 := HTT.out.2.1
      have HXB9 : Hid (∀ (b0 b : Nat), w9.heap.size ≤ b0 → b0 ≤ b → some b ≠ some B9) := Lib.hid (fun b0 b h1 h2 e => by injection e with e; have := HLT.out.2; omega)
      go_loopg [11, 12, 13, 14] kk (fun g s11 s12 s13 s14 wx => ∃ K : Nat, K + g = kk ∧ s14 = .int .i64 ((K : Int) + 1) ∧ Hid (Tri encI encD (encS encP) w9.heap.size 3 41 25 (fun b => w9.heap.size ≤ b) wx s11 s12 s13 (dealersI K) (fitD p (polyL l nn t) nn K) (gotI p i (polyL l nn t) nn K) ∧ w9.grownBy wx (some B9) ∧ Bk wx B9 3 #[.int .i64 ((2 * (K * nn * t) : Nat) : Int)]))
      case atStart => exact ⟨0, by omega, rfl, Lib.hid ⟨Tri.nil _ _ _ _ _ _ _ _ _, World.grownBy.refl _ _, by simpa using H9.out⟩⟩
      case round =>
        obtain ⟨K, hK, rfl, HX⟩ := hrel
        have HT0 := Lib.hid HX.out.1
        have HGo := Lib.hid HX.out.2.1
        have HA0 := Lib.hid HX.out.2.2
        obtain ⟨wo, hwo⟩ : ∃ y, y = wr := ⟨_, rfl⟩
        subst hwo
        have HSO : Hid (w9.heap.size ≤ wo.heap.size) := Lib.hid HGo.out.size
        clear HX
        cases gk with
        | zero =>
          obtain rfl : kk = K := by omega
          have hno : ¬ ((kk : Int) + 1 ≤ (kk : Int)) := by omega
          obtain ⟨F1, F2, F3, F4⟩ := fits_law HMAY.out HK.out.1 HK.out.2.2 HNN.out.1 HTT.out.1 HI.out.1 (poly := polyL l nn t) (fun k s => ⟨polyL_len _ _ _ _ _, polyL_pos HLw.out _ _ _ _⟩)
          have HS1 := Lib.hid (fun (w' : World) (hg : wo.grownBy w' none) => sum_any p _ (dealersI kk) _ (gotI p i (polyL l nn t) nn kk) _ _ w' HP.out (HT0.out.fst.sl.kept hg) (HT0.out.trd.sl.kept hg) (by simp [dealersI]; omega) (by simp [gotI]; omega))
          have HC1 := Lib.hid (fun (w' : World) (hg : wo.grownBy w' none) => scoms_any p _ (fitD p (polyL l nn t) nn kk) _ w' HP.out (HT0.out.snd.sl.kept hg) (by simp [fitD]; omega) (fun d hd => by
            obtain ⟨q, _, rfl⟩ := List.mem_map.1 hd
            simp
            omega))
          simp only [F1] at HS1
          simp only [F2] at HC1
          have HLC : Hid ((comsL p (fitD p (polyL l nn t) nn kk)).length ≤ 100000) := Lib.hid (coms_len (by have := HNN.out; omega))
          have HLS : Hid ((sumL p (dealersI kk) (gotI p i (polyL l nn t) nn kk)).length ≤ 100000) := Lib.hid (sum_len (by have := HNN.out; omega))
          obtain ⟨CL, hCL⟩ : ∃ y, y = comsL p (fitD p (polyL l nn t) nn kk) := ⟨_, rfl⟩
          obtain ⟨SL, hSL⟩ : ∃ y, y = sumL p (dealersI kk) (gotI p i (polyL l nn t) nn kk) := ⟨_, rfl⟩
          rw [← hCL] at HC1 HLC F3 F4
          rw [← hSL] at HS1 HLS F4
          have HFO := Lib.hid (fun v X w' (hs : Sl (encS encU) X w' v CL) => formed_any p v CL X w' HP.out hs)
          have HFI := Lib.hid (fun v u X Y w' (hs : Sl (encS encU) X w' v CL) (hu : Sl encP Y w' u SL) => fits_any p v CL i u SL X Y w' HP.out hs HI.out hu HLC.out HLS.out)
          simp only [F3] at HFO
          simp only [F4] at HFI
          clear F1 F2 F3 F4 hCL hSL
          have hp9 := (HPX.out _ HGo.out).prule
          go_wp2_with fail
          refine (HS1.out _ (World.grownBy.refl _ none)).mono ?_
          rintro e w5 ⟨v26, rfl, h26, hg⟩
          have HK5 := Lib.hid hg
          have HG5 : Hid (w9.grownBy w5 (some B9)) := Lib.hid (HGo.out.trans (hg.but _))
          have HV26 := Lib.hid h26
          have hp10 := (HPX.out _ HG5.out).prule
          clear hg h26 hp9
          go_wp2_with fail
          refine (HC1.out _ HK5.out).mono ?_
          rintro e w6 ⟨v28, rfl, h28, hg⟩
          have HK6 := Lib.hid hg
          have HG6 : Hid (w9.grownBy w6 (some B9)) := Lib.hid (HG5.out.trans (hg.but _))
          have HV28 := Lib.hid h28
          have hp11 := (HPX.out _ HG6.out).prule
          clear hg h28 hp10
          go_wp2_with fail
          refine (HFO.out v28 _ _ HV28.out).mono ?_
          rintro e w7 ⟨rfl, hg⟩
          have HK7 := Lib.hid hg
          have HG7 : Hid (w9.grownBy w7 (some B9)) := Lib.hid (HG6.out.trans (hg.but _))
          have hp12 := (HPX.out _ HG7.out).prule
          clear hg hp11
          go_wp2_with fail
          refine (HFI.out v28 v26 _ _ _ (HV28.out.kept HK7.out) (HV26.out.kept (HK6.out.trans HK7.out))).mono ?_
          rintro e w8 ⟨rfl, hg⟩
          have HG8 : Hid (w.grownBy w8 none) := Lib.hid (grown_up HG9.out (HG7.out.trans (hg.but _)) (fun b e => by injection e with e; have := HLT.out.1; omega))
          clear hg hp12
          go_wp2
          go_ret
          exact ⟨rfl, HG8.out⟩
        | succ m =>
          have hin : (K : Int) + 1 ≤ (kk : Int) := by omega
          have hKk : K ≤ 6 := by omega
          obtain ⟨Kn, hKn⟩ : ∃ q, q = K * nn := ⟨_, rfl⟩
          have HKN : Hid (Kn = K * nn ∧ Kn ≤ 60) := Lib.hid ⟨hKn, by rw [hKn]; exact (show K * nn ≤ 6 * 10 from Nat.mul_le_mul hKk hn10)⟩
          clear hKn
          go_wp2_with fail
          go_loopg [15, 16, 17, 18] nn (fun g s15 s16 s17 s18 wx => ∃ s : Nat, s + g = nn ∧ s18 = .int .i64 s ∧ Hid (Tri (encS encU) (encS encU) encP wo.heap.size 37 37 36 (fun b => wo.heap.size ≤ b) wx s15 s16 s17 ((List.range s).map fun s => (polyL l nn t K s).map (·.1)) ((List.range s).map fun s => (polyL l nn t K s).map (·.2)) ((List.range s).map fun s => valGo p.Q i (polyL l nn t K s) (0, 0) 1) ∧ wo.grownBy wx (some B9) ∧ Bk wx B9 3 #[.int .i64 ((2 * ((K * nn + s) * t) : Nat) : Int)]))
          case atStart => exact ⟨0, by omega, rfl, Lib.hid ⟨Tri.nil _ _ _ _ _ _ _ _ _, World.grownBy.refl _ _, HA0.out⟩⟩
          case round =>
            obtain ⟨s, hs, rfl, HY⟩ := hrel
            have HT1 := Lib.hid HY.out.1
            have HGa := Lib.hid HY.out.2.1
            have HA1 := Lib.hid HY.out.2.2
            have HG1 : Hid (w9.grownBy wr (some B9)) := Lib.hid (HGo.out.trans HGa.out)
            have hp1 := (HPX.out _ HG1.out).prule
            clear HY
            cases gk with
            | zero =>
              obtain rfl : nn = s := by omega
              have hno : ¬ ((nn : Int) < (nn : Int)) := by omega
              go_wp2_with fail
              refine (HSEC.out _).mono ?_
              rintro e w4 ⟨rfl, hg⟩
              have HT4 := Lib.hid (HT1.out.kept hg)
              have HA4 := Lib.hid (HA1.out.grown hg (by simp))
              have HG4o : Hid (wo.grownBy w4 (some B9)) := Lib.hid (HGa.out.trans (hg.but _))
              have HG4 : Hid (w9.grownBy w4 (some B9)) := Lib.hid (HG1.out.trans (hg.but _))
              have HO4 := Lib.hid (HT0.out.keep HG4o.out (fun b hb => HXB9.out _ b (Nat.le_refl _) hb))
              have HOL : Hid (∀ b, wo.heap.size ≤ b → some b ≠ u11.ownBlock ∧ some b ≠ u12.ownBlock ∧ some b ≠ u13.ownBlock) := Lib.hid (fun b hb => HT0.out.near hb)
              clear hg hp1
              have HSZ4 : Hid (w9.heap.size ≤ w4.heap.size) := Lib.hid HG4.out.size
              have hp4 := (HPX.out _ HG4.out).prule
              have HLB1 : Hid (((dealersI K).length + 1) * 8 ≤ 140737488355328) := Lib.hid (by simp [dealersI]; omega)
              have HLB2 : Hid (((fitD p (polyL l nn t) nn K).length + 1) * 32 ≤ 140737488355328) := Lib.hid (by simp [fitD]; omega)
              have HLB3 : Hid (((gotI p i (polyL l nn t) nn K).length + 1) * 24 ≤ 140737488355328) := Lib.hid (by simp [gotI]; omega)
              have HKI : Hid (I64 ((K : Int) + 1)) := Lib.hid ⟨by omega, by omega⟩
              have HREP1 : Hid (encI.rep (fun b => (w9.heap.size ≤ b ∧ some b ≠ u12.ownBlock ∧ some b ≠ u13.ownBlock) ∧ some b ≠ u11.ownBlock) w4 [.int .i64 ((K : Int) + 1)] ((K : Int) + 1)) := Lib.hid ⟨rfl, HKI.out⟩
              go_wp2_with (at_builtin; refine wpList_push rfl (.tmp 120) (.tmp 122) rfl (E := encI) (y := (K : Int) + 1) el_int HO4.out.fst rfl rfl HREP1.out HLB1.out HSZ4.out (HO4.out.new1 (fun _ h => Nat.le_trans HSZ4.out h)) ?_)
              intro w11 w5 ha hg hm
              have HO5 := Lib.hid (HO4.out.one ha hg hm)
              have HG5 : Hid (w9.grownBy w5 (some B9)) := Lib.hid (HG4.out.andThen hg (fun j e => .inl (HO4.out.fst.lt j e).1))
              have HA5 := Lib.hid (HA4.out.grown hg (fun e => by have := (HO4.out.fst.lt _ e.symm).1; have := HLT.out.2; omega))
              have HF15 : Hid (Sl (encS encU) TT w5 u15 ((List.range nn).map fun s => (polyL l nn t K s).map (·.1))) := Lib.hid ((HT4.out.fst.sl.keep hg (fun b hb => (HOL.out b hb.1).1)).more fun _ _ _ => trivial)
              have HF16 : Hid (Sl (encS encU) TT w5 u16 ((List.range nn).map fun s => (polyL l nn t K s).map (·.2))) := Lib.hid ((HT4.out.snd.sl.keep hg (fun b hb => (HOL.out b hb.1).1)).more fun _ _ _ => trivial)
              have HF17 : Hid (Sl encP (fun b => wo.heap.size ≤ b ∧ b < w4.heap.size) w5 u17 ((List.range nn).map fun s => valGo p.Q i (polyL l nn t K s) (0, 0) 1)) := Lib.hid ((HT4.out.trd.sl.bounded.keep hg (fun b hb => (HOL.out b hb.1.1).1)).more fun _ _ x => ⟨x.1.1, x.2⟩)
              have HW5 : Hid (w4.heap.size ≤ w5.heap.size) := Lib.hid hg.size
              have HN1 := Lib.hid hm
              clear ha hg hm hp4
              have hp5 := (HPX.out _ HG5.out).prule
              have HCM := Lib.hid (callsIn_wide.1 (coms_in 6 (Nat.le_refl _) p u15 u16 _ _ TT w5 HP.out HF15.out HF16.out (by simp; omega) (by simp; omega) (fun c hc => by
                obtain ⟨q, _, rfl⟩ := List.mem_map.1 hc
                show ((polyL l nn t K q).map (·.1)).length ≤ 100000
                rw [List.length_map, polyL_len]
                omega) (fun c hc => by
                obtain ⟨q, _, rfl⟩ := List.mem_map.1 hc
                show ((polyL l nn t K q).map (·.2)).length ≤ 100000
                rw [List.length_map, polyL_len]
                omega)))
              rw [fit_coms] at HCM
              go_wp2_with fail
              refine HCM.out.mono ?_
              rintro e w6 ⟨v129, rfl, h129, hg⟩
              have HO6 := Lib.hid (HO5.out.kept hg)
              have HG6 : Hid (w9.grownBy w6 (some B9)) := Lib.hid (HG5.out.trans (hg.but _))
              have HA6 := Lib.hid (HA5.out.grown hg (by simp))
              have HF6 := Lib.hid (HF17.out.kept hg)
              have HW6 : Hid (w4.heap.size ≤ w6.heap.size) := Lib.hid (Nat.le_trans HW5.out hg.size)
              obtain ⟨A9, n9, c9, q9⟩ := h129.shape
              subst q9
              have HO5L : Hid (∀ b, w5.heap.size ≤ b → some b ≠ w11.ownBlock ∧ some b ≠ u12.ownBlock ∧ some b ≠ u13.ownBlock) := Lib.hid (fun b hb => HO5.out.near hb)
              have HSZ6 : Hid (w9.heap.size ≤ w6.heap.size) := Lib.hid HG6.out.size
              have HSZ5 : Hid (w9.heap.size ≤ w5.heap.size) := Lib.hid HG5.out.size
              have HREP2 : Hid (encD.rep (fun b => (w9.heap.size ≤ b ∧ some b ≠ w11.ownBlock ∧ some b ≠ u13.ownBlock) ∧ some b ≠ u12.ownBlock) w6 [.int .i64 ((K : Int) + 1), .slice A9 n9 c9] (((K + 1 : Nat) : Int), (List.range nn).map fun s => (polyL l nn t K s).map (commitI p))) := Lib.hid ⟨_, rfl, HKI.out, h129.more fun b _ hb => by
                obtain ⟨f1, f2, f3⟩ := HO5L.out b hb
                exact ⟨⟨Nat.le_trans HSZ5.out hb, f1, f3⟩, f2⟩⟩
              clear hg h129 hp5
              go_wp2_with (at_builtin; refine wpList_push rfl (.tmp 124) (.tmp 131) rfl (E := encD) (y := (((K + 1 : Nat) : Int), (List.range nn).map fun s => (polyL l nn t K s).map (commitI p))) el_dealt2 HO6.out.snd rfl rfl HREP2.out HLB2.out HSZ6.out (HO6.out.new2 (fun _ h => Nat.le_trans HSZ6.out h)) ?_)
              intro w12 w7 ha hg hm
              have HO7 := Lib.hid (HO6.out.two ha hg hm)
              have HG7 : Hid (w9.grownBy w7 (some B9)) := Lib.hid (HG6.out.andThen hg (fun j e => .inl (HO6.out.snd.lt j e).1))
              have HA7 := Lib.hid (HA6.out.grown hg (fun e => by have := (HO6.out.snd.lt _ e.symm).1; have := HLT.out.2; omega))
              have HF7 := Lib.hid (HF6.out.keep hg (fun b hb => (HOL.out b hb.1).2.1))
              obtain ⟨A17, n17, c17, q17⟩ := HF7.out.shape
              subst q17
              have HSZ7 : Hid (w9.heap.size ≤ w7.heap.size) := Lib.hid HG7.out.size
              have HREP3 : Hid ((encS encP).rep (fun b => (w9.heap.size ≤ b ∧ some b ≠ w11.ownBlock ∧ some b ≠ w12.ownBlock) ∧ some b ≠ u13.ownBlock) w7 [.slice A17 n17 c17] ((List.range nn).map fun s => valGo p.Q i (polyL l nn t K s) (0, 0) 1)) := Lib.hid ⟨_, rfl, HF7.out.more fun b _ hb => by
                obtain ⟨f1, f2, f3⟩ := HOL.out b hb.1
                have g1 : some b ≠ w11.ownBlock := HN1.out.ne hb.2 (fun e => f1 e.symm) |> Ne.symm
                have g2 : some b ≠ w12.ownBlock := hm.ne (Nat.lt_of_lt_of_le hb.2 HW6.out) (fun e => f2 e.symm) |> Ne.symm
                exact ⟨⟨Nat.le_trans HSO.out hb.1, g1, g2⟩, f3⟩⟩
              clear ha hg hm
              go_wp2_with (at_builtin; refine wpList_push rfl (.tmp 133) (.tmp 135) rfl (E := encS encP) (y := (List.range nn).map fun s => valGo p.Q i (polyL l nn t K s) (0, 0) 1) el_pairs HO7.out.trd rfl rfl HREP3.out HLB3.out HSZ7.out (HO7.out.new3 (fun _ h => Nat.le_trans HSZ7.out h)) ?_)
              intro w13 w8 ha hg hm
              have HFIN : Hid (Tri encI encD (encS encP) w9.heap.size 3 41 25 (fun b => w9.heap.size ≤ b) w8 w11 w12 w13 (dealersI (K + 1)) (fitD p (polyL l nn t) nn (K + 1)) (gotI p i (polyL l nn t) nn (K + 1)) ∧ w9.grownBy w8 (some B9) ∧ Bk w8 B9 3 #[.int .i64 ((2 * ((K + 1) * nn * t) : Nat) : Int)]) := Lib.hid ⟨by
                rw [show dealersI (K + 1) = dealersI K ++ [(K : Int) + 1] from mapr_snoc2 _ _, show fitD p (polyL l nn t) nn (K + 1) = fitD p (polyL l nn t) nn K ++ [(((K + 1 : Nat) : Int), (List.range nn).map fun s => (polyL l nn t K s).map (commitI p))] from mapr_snoc2 _ _, show gotI p i (polyL l nn t) nn (K + 1) = gotI p i (polyL l nn t) nn K ++ [(List.range nn).map fun s => valGo p.Q i (polyL l nn t K s) (0, 0) 1] from mapr_snoc2 _ _]
                exact HO7.out.three ha hg hm, HG7.out.andThen hg (fun j e => .inl (HO7.out.trd.lt j e).1), by
                rw [show (K + 1) * nn = K * nn + nn by rw [Nat.add_mul, Nat.one_mul]]
                exact HA7.out.grown hg (fun e => by have := (HO7.out.trd.lt _ e.symm).1; have := HLT.out.2; omega)⟩
              clear ha hg hm
              go_wp2_with fail
              go_roundg m
              case measure => omega
              case rel => exact ⟨K + 1, by omega, by go_num, HFIN⟩
            | succ m2 =>
              have hsn : (s : Int) < (nn : Int) := by omega
              have hsN : s ≤ 10 := by omega
              go_wp2_with fail
              refine (HSEC.out _).mono ?_
              rintro e w4 ⟨rfl, hg⟩
              have HT4 := Lib.hid (HT1.out.kept hg)
              have HA4 := Lib.hid (HA1.out.grown hg (by simp))
              have HG4o : Hid (wo.grownBy w4 (some B9)) := Lib.hid (HGa.out.trans (hg.but _))
              have HG4 : Hid (w9.grownBy w4 (some B9)) := Lib.hid (HG1.out.trans (hg.but _))
              clear hg hp1
              go_wp2_with fail
              obtain ⟨w5, hw5⟩ : ∃ y, y = w4.alloc (Obj.cells #[.int .u64 0, .int .u64 0] 36) := ⟨_, rfl⟩
              rw [← hw5]
              obtain ⟨Bv, hBv⟩ : ∃ y, y = w4.heap.size := ⟨_, rfl⟩
              have HV5 : Hid (Bk w5 Bv 36 #[.int .u64 0, .int .u64 0]) := Lib.hid (by rw [hw5, hBv]; exact Bk.new _ _ _)
              have HG5 : Hid (w4.grownBy w5 none) := Lib.hid (by rw [hw5]; exact World.grownBy_alloc _ _ none)
              have HA5 := Lib.hid (HA4.out.grown HG5.out (by simp))
              have HLV : Hid (w4.heap.size = Bv ∧ Bv < w5.heap.size ∧ wo.heap.size ≤ Bv ∧ w9.heap.size ≤ Bv) := Lib.hid ⟨hBv.symm, HV5.out.lt, by rw [hBv]; exact HG4o.out.size, by rw [hBv]; exact HG4.out.size⟩
              rw [← hBv]
              clear hw5 hBv
              have HNV : Hid (some Bv ≠ some B9) := Lib.hid (fun e => by injection e with e; have := HLT.out.2; have := HLV.out.2.2.2; omega)
              obtain ⟨PL, hPL⟩ : ∃ y, y = polyL l nn t K s := ⟨_, rfl⟩
              have HPL := Lib.hid hPL
              have HPN : Hid (PL.length = t) := Lib.hid (by rw [hPL]; exact polyL_len _ _ _ _ _)
              clear hPL
              have hKs : Kn + s ≤ 70 := by have := HKN.out.2; omega
              obtain ⟨Kt, hKt⟩ : ∃ q, q = (Kn + s) * t := ⟨_, rfl⟩
              have hKt2 : Kt ≤ 210 := by rw [hKt]; exact (show (Kn + s) * t ≤ 70 * 3 from Nat.mul_le_mul hKs ht3)
              have HKT : Hid (Kt = (K * nn + s) * t) := Lib.hid (by rw [hKt, HKN.out.1])
              rw [← HKT.out] at HA5
              clear hKt hKs
              go_loopg [19, 20, 22, 23] t (fun g s19 s20 s22 s23 wx => ∃ (j : Nat) (vS vB e : Int), j + g = t ∧ s22 = .int .u64 e ∧ s23 = .int .i64 j ∧ Hid (Side encU encU w5.heap.size 22 22 (fun b => w5.heap.size ≤ b) wx s19 s20 ((PL.take j).map (·.1)) ((PL.take j).map (·.2)) ∧ w4.grownBy wx (some B9) ∧ Bk wx B9 3 #[.int .i64 ((2 * (Kt + j) : Nat) : Int)] ∧ Bk wx Bv 36 #[.int .u64 vS, .int .u64 vB] ∧ (U64 vS ∧ U64 vB ∧ U64 e) ∧ w5.heap.size ≤ wx.heap.size ∧ valGo p.Q i PL (0, 0) 1 = valGo p.Q i (PL.drop j) (vS, vB) e))
              case atStart => exact ⟨0, 0, 0, 1, by omega, rfl, rfl, Lib.hid ⟨⟨Acc.nil _ _ _ _ _, Acc.nil _ _ _ _ _⟩, HG5.out.but _, HA5.out, HV5.out, ⟨⟨by decide, by decide⟩, ⟨by decide, by decide⟩, ⟨by decide, by decide⟩⟩, Nat.le_refl _, rfl⟩⟩
              case round =>
                obtain ⟨j, vS, vB, e, hj, rfl, rfl, HZ⟩ := hrel
                have HS6 := Lib.hid HZ.out.1
                have HG6 := Lib.hid HZ.out.2.1
                have HA6 := Lib.hid HZ.out.2.2.1
                have HV6 := Lib.hid HZ.out.2.2.2.1
                have HU6 := Lib.hid HZ.out.2.2.2.2.1
                have HZ6 := Lib.hid HZ.out.2.2.2.2.2.1
                have HVL := Lib.hid HZ.out.2.2.2.2.2.2
                have HGw : Hid (w9.grownBy wr (some B9)) := Lib.hid (HG4.out.trans HG6.out)
                have hp6 := (HPX.out _ HGw.out).prule
                clear HZ
                cases gk with
                | zero =>
                  obtain rfl : t = j := by omega
                  have hno : ¬ ((t : Int) ≤ p.T) := by have := HTT.out.1; omega
                  have HVF : Hid ((vS, vB) = valGo p.Q i PL (0, 0) 1) := Lib.hid (by rw [HVL.out, List.drop_eq_nil_of_le (by rw [HPN.out]; exact Nat.le_refl _)]; rfl)
                  have htk : PL.take t = PL := List.take_of_length_le (by rw [HPN.out]; exact Nat.le_refl _)
                  rw [htk] at HS6
                  clear htk
                  have HT6 := Lib.hid (HT4.out.keep HG6.out (fun b hb => HXB9.out _ b HSO.out hb))
                  have HGo6 : Hid (wo.grownBy wr (some B9)) := Lib.hid (HG4o.out.trans HG6.out)
                  have HNR : Hid (∀ b, w4.heap.size ≤ b → some b ≠ u15.ownBlock ∧ some b ≠ u16.ownBlock ∧ some b ≠ u17.ownBlock) := Lib.hid (fun b hb => HT4.out.near hb)
                  obtain ⟨Aa, na, ca, qa⟩ := HS6.out.fst.sl.shape
                  obtain ⟨Ab, nb, cb, qb⟩ := HS6.out.snd.sl.shape
                  have HSa : Hid (Sl encU (fun b => w5.heap.size ≤ b ∧ b < wr.heap.size) wr u19 (PL.map (·.1))) := Lib.hid (HS6.out.fst.sl.bounded.more fun _ _ x => ⟨x.1.1, x.2⟩)
                  have HSb : Hid (Sl encU (fun b => w5.heap.size ≤ b ∧ b < wr.heap.size) wr u20 (PL.map (·.2))) := Lib.hid (HS6.out.snd.sl.bounded.more fun _ _ x => ⟨x.1.1, x.2⟩)
                  subst qa qb
                  have HW45 : Hid (w4.heap.size ≤ w5.heap.size ∧ wo.heap.size ≤ w5.heap.size) := Lib.hid (by have := HLV.out; omega)
                  have HLB1 : Hid ((((List.range s).map fun s => (polyL l nn t K s).map (·.1)).length + 1) * 24 ≤ 140737488355328) := Lib.hid (by simp; omega)
                  have HLB2 : Hid ((((List.range s).map fun s => (polyL l nn t K s).map (·.2)).length + 1) * 24 ≤ 140737488355328) := Lib.hid (by simp; omega)
                  have HLB3 : Hid ((((List.range s).map fun s => valGo p.Q i (polyL l nn t K s) (0, 0) 1).length + 1) * 16 ≤ 140737488355328) := Lib.hid (by simp; omega)
                  have HSZ6 : Hid (wo.heap.size ≤ wr.heap.size) := Lib.hid HGo6.out.size
                  have HREP1 : Hid ((encS encU).rep (fun b => (wo.heap.size ≤ b ∧ some b ≠ u16.ownBlock ∧ some b ≠ u17.ownBlock) ∧ some b ≠ u15.ownBlock) wr [.slice Aa na ca] (PL.map (·.1))) := Lib.hid ⟨_, rfl, HSa.out.more fun b _ hb => by
                    obtain ⟨f1, f2, f3⟩ := HNR.out b (Nat.le_trans HW45.out.1 hb.1)
                    exact ⟨⟨Nat.le_trans HW45.out.2 hb.1, f2, f3⟩, f1⟩⟩
                  go_wp2_with (at_builtin; refine wpList_push rfl (.tmp 108) (.tmp 110) rfl (E := encS encU) (y := PL.map (·.1)) el_nums HT6.out.fst rfl rfl HREP1.out HLB1.out HSZ6.out (HT6.out.new1 (fun _ h => Nat.le_trans HSZ6.out h)) ?_)
                  intro w15 w7 ha hg hm
                  have HT7 := Lib.hid (HT6.out.one ha hg hm)
                  have HGo7 : Hid (wo.grownBy w7 (some B9)) := Lib.hid (HGo6.out.andThen hg (fun j e => .inl (HT6.out.fst.lt j e).1))
                  have HB7 : Hid (∀ (b : Nat) (t : TypeId) cs, w4.heap.size ≤ b ∨ b = B9 → Bk wr b t cs → Bk w7 b t cs) := Lib.hid (fun b t cs hb h => h.grown hg (fun e => by
                    rcases hb with hb | hb
                    · exact (HNR.out b hb).1 e
                    · subst hb; have := (HT6.out.fst.lt _ e.symm).1; have := HLT.out.2; have := HSO.out; omega))
                  have HSb7 := Lib.hid (HSb.out.keep hg (fun b hb => (HNR.out b (Nat.le_trans HW45.out.1 hb.1)).1))
                  have HN15 : Hid (∀ b, w4.heap.size ≤ b → b < wr.heap.size → some b ≠ w15.ownBlock) := Lib.hid (fun b h1 h2 e => hm.ne h2 (fun e' => (HNR.out b h1).1 e'.symm) e.symm)
                  have HSZ7 : Hid (wo.heap.size ≤ w7.heap.size) := Lib.hid HGo7.out.size
                  have HWR7 : Hid (wr.heap.size ≤ w7.heap.size) := Lib.hid hg.size
                  have HREP2 : Hid ((encS encU).rep (fun b => (wo.heap.size ≤ b ∧ some b ≠ w15.ownBlock ∧ some b ≠ u17.ownBlock) ∧ some b ≠ u16.ownBlock) w7 [.slice Ab nb cb] (PL.map (·.2))) := Lib.hid ⟨_, rfl, HSb7.out.more fun b _ hb => by
                    obtain ⟨f1, f2, f3⟩ := HNR.out b (Nat.le_trans HW45.out.1 hb.1)
                    exact ⟨⟨Nat.le_trans HW45.out.2 hb.1, HN15.out b (Nat.le_trans HW45.out.1 hb.1) hb.2, f3⟩, f2⟩⟩
                  clear ha hg hm hp6
                  go_wp2_with (at_builtin; refine wpList_push rfl (.tmp 112) (.tmp 114) rfl (E := encS encU) (y := PL.map (·.2)) el_nums HT7.out.snd rfl rfl HREP2.out HLB2.out HSZ7.out (HT7.out.new2 (fun _ h => Nat.le_trans HSZ7.out h)) ?_)
                  intro w16 w8 ha hg hm
                  have HT8 := Lib.hid (HT7.out.two ha hg hm)
                  have HGo8 : Hid (wo.grownBy w8 (some B9)) := Lib.hid (HGo7.out.andThen hg (fun j e => .inl (HT7.out.snd.lt j e).1))
                  have HB8 : Hid (∀ (b : Nat) (t : TypeId) cs, w4.heap.size ≤ b ∨ b = B9 → Bk wr b t cs → Bk w8 b t cs) := Lib.hid (fun b t cs hb h => (HB7.out b t cs hb h).grown hg (fun e => by
                    rcases hb with hb | hb
                    · exact (HNR.out b hb).2.1 e
                    · subst hb; have := (HT7.out.snd.lt _ e.symm).1; have := HLT.out.2; have := HSO.out; omega))
                  have HV8 := Lib.hid (HB8.out _ _ _ (.inl (by rw [HLV.out.1]; exact Nat.le_refl _)) HV6.out)
                  have HA8 := Lib.hid (HB8.out _ _ _ (.inr rfl) HA6.out)
                  have hv0 := HV8.out.cell 0
                  have hv1 := HV8.out.cell 1
                  simp at hv0 hv1
                  have HSZ8 : Hid (wo.heap.size ≤ w8.heap.size) := Lib.hid HGo8.out.size
                  have HREP3 : Hid (encP.rep (fun b => (wo.heap.size ≤ b ∧ some b ≠ w15.ownBlock ∧ some b ≠ w16.ownBlock) ∧ some b ≠ u17.ownBlock) w8 [.int .u64 vS, .int .u64 vB] (vS, vB)) := Lib.hid ⟨rfl, HU6.out.1, HU6.out.2.1⟩
                  clear ha hg hm
                  go_wp2_with (at_builtin; refine wpList_push rfl (.tmp 116) (.tmp 118) rfl (E := encP) (y := (vS, vB)) el_pair HT8.out.trd rfl rfl HREP3.out HLB3.out HSZ8.out (HT8.out.new3 (fun _ h => Nat.le_trans HSZ8.out h)) ?_)
                  intro w17 w10 ha hg hm
                  have HFIN : Hid (Tri (encS encU) (encS encU) encP wo.heap.size 37 37 36 (fun b => wo.heap.size ≤ b) w10 w15 w16 w17 ((List.range (s + 1)).map fun s => (polyL l nn t K s).map (·.1)) ((List.range (s + 1)).map fun s => (polyL l nn t K s).map (·.2)) ((List.range (s + 1)).map fun s => valGo p.Q i (polyL l nn t K s) (0, 0) 1) ∧ wo.grownBy w10 (some B9) ∧ Bk w10 B9 3 #[.int .i64 ((2 * ((K * nn + (s + 1)) * t) : Nat) : Int)]) := Lib.hid ⟨by
                    rw [mapr_snoc2, mapr_snoc2, mapr_snoc2, ← HPL.out, ← HVF.out]
                    exact HT8.out.three ha hg hm, HGo8.out.andThen hg (fun j e => .inl (HT8.out.trd.lt j e).1), by
                    rw [show (K * nn + (s + 1)) * t = Kt + t by rw [HKT.out, ← Nat.add_assoc, Nat.add_mul, Nat.one_mul]]
                    exact HA8.out.grown hg (fun e => by have := (HT8.out.trd.lt _ e.symm).1; have := HLT.out.2; have := HSO.out; omega)⟩
                  clear ha hg hm hv0 hv1
                  go_wp2_with fail
                  go_roundg m2
                  case measure => omega
                  case rel => exact ⟨s + 1, by omega, by go_num, HFIN⟩
                | succ m3 =>
                  have hle : (j : Int) ≤ p.T := by have := HTT.out.1; omega
                  obtain ⟨cq, hcq⟩ : ∃ q, q = 2 * (Kt + j) := ⟨_, rfl⟩
                  have hcb : cq ≤ 100000 := by omega
                  have hcb1 : cq + 1 ≤ 100000 := by omega
                  have hcn : 2 * (Kt + (j + 1)) = cq + 1 + 1 := by omega
                  rw [← hcq] at HA6
                  have hjl : j < PL.length := by rw [HPN.out]; omega
                  have HXY : Hid (PL[j] = (num l cq, num l (cq + 1))) := Lib.hid (by
                    rw [hcq, HKT.out]
                    have e := HPL.out
                    subst e
                    exact polyL_at _ _ _ _ _ _ hjl)
                  have HVN : Hid (valGo p.Q i PL (0, 0) 1 = valGo p.Q i (PL.drop (j + 1)) (addI vS (mulI (num l cq) e p.Q) p.Q, addI vB (mulI (num l (cq + 1)) e p.Q) p.Q) (mulI e i p.Q)) := Lib.hid (by rw [HVL.out, val_step p.Q i PL j hjl, HXY.out])
                  have HT1 : Hid ((PL.take (j + 1)).map (·.1) = (PL.take j).map (·.1) ++ [num l cq]) := Lib.hid (by rw [take_snoc _ _ _ hjl, HXY.out])
                  have HT2 : Hid ((PL.take (j + 1)).map (·.2) = (PL.take j).map (·.2) ++ [num l (cq + 1)]) := Lib.hid (by rw [take_snoc _ _ _ hjl, HXY.out])
                  have HUX := Lib.hid (HNU.out cq hcb)
                  have HUY := Lib.hid (HNU.out (cq + 1) hcb1)
                  have HUS := Lib.hid HU6.out.1
                  have HUB := Lib.hid HU6.out.2.1
                  have HUE := Lib.hid HU6.out.2.2
                  have HLB1 : Hid ((((PL.take j).map (·.1)).length + 1) * 8 ≤ 140737488355328) := Lib.hid (by simp; omega)
                  have HLB2 : Hid ((((PL.take j).map (·.2)).length + 1) * 8 ≤ 140737488355328) := Lib.hid (by simp; omega)
                  have HCN := Lib.hid hcn
                  have HW45 : Hid (w4.heap.size ≤ w5.heap.size) := Lib.hid HG5.out.size
                  have HW95 : Hid (w9.heap.size ≤ w5.heap.size) := Lib.hid (Nat.le_trans HG4.out.size HG5.out.size)
                  clear hcq HXY hjl hcn
                  go_wp2_with fail
                  refine (HNX.out _ cq HGw.out HA6.out hcb).mono ?_
                  rintro e' w6 ⟨rfl, hg, hb⟩
                  have HA7 := Lib.hid hb
                  have HG7 : Hid (w4.grownBy w6 (some B9)) := Lib.hid (HG6.out.trans hg)
                  have HGw7 : Hid (w9.grownBy w6 (some B9)) := Lib.hid (HGw.out.trans hg)
                  have HS7 := Lib.hid (HS6.out.keep hg (fun b hb => HXB9.out w5.heap.size b HW95.out hb))
                  have HV7 := Lib.hid (HV6.out.grown hg HNV.out)
                  have HZ7 : Hid (w5.heap.size ≤ w6.heap.size) := Lib.hid (Nat.le_trans HZ6.out hg.size)
                  clear hg hb hp6
                  go_wp2_with fail
                  refine (HNX.out _ (cq + 1) HGw7.out HA7.out hcb1).mono ?_
                  rintro e' w7 ⟨rfl, hg, hb⟩
                  have HA8 := Lib.hid hb
                  have HG8 : Hid (w4.grownBy w7 (some B9)) := Lib.hid (HG7.out.trans hg)
                  have HS8 := Lib.hid (HS7.out.keep hg (fun b hb => HXB9.out w5.heap.size b HW95.out hb))
                  have HV8 := Lib.hid (HV7.out.grown hg HNV.out)
                  have HZ8 : Hid (w5.heap.size ≤ w7.heap.size) := Lib.hid (Nat.le_trans HZ7.out hg.size)
                  have HREP1 : Hid (encU.rep (fun b => (w5.heap.size ≤ b ∧ some b ≠ u20.ownBlock) ∧ some b ≠ u19.ownBlock) w7 [.int .u64 (num l cq)] (num l cq)) := Lib.hid ⟨rfl, HUX.out⟩
                  clear hg hb
                  go_wp2_with (at_builtin; refine wpList_push rfl (.tmp 73) (.tmp 75) rfl (E := encU) (y := num l cq) el_u64 HS8.out.fst rfl rfl HREP1.out HLB1.out HZ8.out (HS8.out.new1 (fun _ h => Nat.le_trans HZ8.out h)) ?_)
                  intro w19 w8 ha hg hm
                  have HS9 := Lib.hid (HS8.out.one ha hg hm)
                  have HG9' : Hid (w4.grownBy w8 (some B9)) := Lib.hid (HG8.out.andThen hg (fun j e => .inl (Nat.le_trans HW45.out (HS8.out.fst.lt j e).1)))
                  have HA9 := Lib.hid (HA8.out.grown hg (fun e => by have := (HS8.out.fst.lt _ e.symm).1; have := HLT.out.2; have := HW95.out; omega))
                  have HV9 := Lib.hid (HV8.out.grown hg (fun e => by have := (HS8.out.fst.lt _ e.symm).1; have := HLV.out.2.1; omega))
                  have HZ9 : Hid (w5.heap.size ≤ w8.heap.size) := Lib.hid (Nat.le_trans HZ8.out hg.size)
                  have HREP2 : Hid (encU.rep (fun b => (w5.heap.size ≤ b ∧ some b ≠ w19.ownBlock) ∧ some b ≠ u20.ownBlock) w8 [.int .u64 (num l (cq + 1))] (num l (cq + 1))) := Lib.hid ⟨rfl, HUY.out⟩
                  clear ha hg hm
                  go_wp2_with (at_builtin; refine wpList_push rfl (.tmp 77) (.tmp 79) rfl (E := encU) (y := num l (cq + 1)) el_u64 HS9.out.snd rfl rfl HREP2.out HLB2.out HZ9.out (HS9.out.new2 (fun _ h => Nat.le_trans HZ9.out h)) ?_)
                  intro w20 w10 ha hg hm
                  have HSA := Lib.hid (HS9.out.two ha hg hm)
                  have HGA : Hid (w4.grownBy w10 (some B9)) := Lib.hid (HG9'.out.andThen hg (fun j e => .inl (Nat.le_trans HW45.out (HS9.out.snd.lt j e).1)))
                  have HAA := Lib.hid (HA9.out.grown hg (fun e => by have := (HS9.out.snd.lt _ e.symm).1; have := HLT.out.2; have := HW95.out; omega))
                  have HVA := Lib.hid (HV9.out.grown hg (fun e => by have := (HS9.out.snd.lt _ e.symm).1; have := HLV.out.2.1; omega))
                  have HZA : Hid (w5.heap.size ≤ w10.heap.size) := Lib.hid (Nat.le_trans HZ9.out hg.size)
                  clear ha hg hm
                  have HPA : Hid (Bk w10 w.heap.size 24 p.cells) := Lib.hid (HPX.out _ (HG4.out.trans HGA.out))
                  have HM1 := Lib.hid (mulI_U64 (num l cq) e p.Q)
                  have HM2 := Lib.hid (mulI_U64 (num l (cq + 1)) e p.Q)
                  have HNP : Hid (some w.heap.size ≠ some Bv) := Lib.hid (fun e => by injection e with e; have := HLV.out.2.2.2; have := HLT.out; omega)
                  have HSV : Hid (∀ b, w5.heap.size ≤ b → some b ≠ some Bv) := Lib.hid (fun b hb e => by injection e with e; have := HLV.out.2.1; omega)
                  go_upto_region 26 with (fail)
                  have c0 : w10.cell? ⟨w.heap.size, 1, none⟩ = some (.int .u64 p.Q) := HPA.out.cell 1
                  have c1 : w10.cell? ⟨Bv, 0, none⟩ = some (.int .u64 vS) := HVA.out.cell 0
                  have f0 := HVA.out.free 0
                  refine wp_region_quiet_last 11 (by kernel_rfl) (by kernel_rfl) ?_
                  repeat (quiet_step ((first | (go_at_call 18; exact Calls.quiet_of (mul_any (num l cq) e p.Q _ HUX.out HUE.out)) | (go_at_call 17; exact Calls.quiet_of (add_any vS (mulI (num l cq) e p.Q) p.Q _ HUS.out HM1.out)))))
                  refine wpQuiet_nil ?_
                  intro _ hw'
                  obtain ⟨nq, hw''⟩ := hw'
                  subst hw''
                  have c3 : (w10.drewN nq).cell? ⟨Bv, 0, none⟩ = some (.int .u64 vS) := c1
                  go_wp2_with fail
                  obtain ⟨w11, hw11⟩ : ∃ y, y = (w10.drewN nq).setCell ⟨Bv, 0, none⟩ (.int .u64 (addI vS (mulI (num l cq) e p.Q) p.Q)) := ⟨_, rfl⟩
                  rw [← hw11]
                  have HGR : Hid (w10.grownBy w11 (some Bv)) := Lib.hid (by rw [hw11]; exact (grownBy_drewN (World.grownBy.refl w10 (some Bv)) nq).trans (grownBy_set (World.grownBy.refl _ (some Bv)) 0 _))
                  have HVB : Hid (Bk w11 Bv 36 #[.int .u64 (addI vS (mulI (num l cq) e p.Q) p.Q), .int .u64 vB]) := Lib.hid (by rw [hw11]; exact (HVA.out.drewN nq).set 0 _)
                  have HSB := Lib.hid (HSA.out.keep HGR.out HSV.out)
                  have HGB : Hid (w4.grownBy w11 (some B9)) := Lib.hid (HGA.out.andThen HGR.out (fun j e => .inl (by injection e with e; have := HLV.out.1; omega)))
                  have HAB := Lib.hid (HAA.out.grown HGR.out HNV.out.symm)
                  have HPB : Hid (Bk w11 w.heap.size 24 p.cells) := Lib.hid (HPA.out.grown HGR.out HNP.out)
                  have HZB : Hid (w5.heap.size ≤ w11.heap.size) := Lib.hid (Nat.le_trans HZA.out HGR.out.size)
                  clear hw11 c0 c1 c3 f0
                  have c0 : w11.cell? ⟨w.heap.size, 1, none⟩ = some (.int .u64 p.Q) := HPB.out.cell 1
                  have c1 : w11.cell? ⟨Bv, 1, none⟩ = some (.int .u64 vB) := HVB.out.cell 1
                  have f0 := HVB.out.free 1
                  refine wp_region_quiet_last 11 (by kernel_rfl) (by kernel_rfl) ?_
                  repeat (quiet_step ((first | (go_at_call 18; exact Calls.quiet_of (mul_any (num l (cq + 1)) e p.Q _ HUY.out HUE.out)) | (go_at_call 17; exact Calls.quiet_of (add_any vB (mulI (num l (cq + 1)) e p.Q) p.Q _ HUB.out HM2.out)))))
                  refine wpQuiet_nil ?_
                  intro _ hw'
                  obtain ⟨nr, hw''⟩ := hw'
                  subst hw''
                  have c3 : (w11.drewN nr).cell? ⟨Bv, 1, none⟩ = some (.int .u64 vB) := c1
                  have c4 : (w11.drewN nr).cell? ⟨w.heap.size, 1, none⟩ = some (.int .u64 p.Q) := c0
                  have n4 : ¬ Bv = w.heap.size := fun e => HNP.out (by rw [e])
                  go_wp2_with fail
                  refine (mul_any e i p.Q _ HUE.out HI.out).mono ?_
                  rintro e' w' ⟨rfl, n', rfl⟩
                  obtain ⟨w12, hw12⟩ : ∃ y, y = ((w11.drewN nr).setCell ⟨Bv, 1, none⟩ (.int .u64 (addI vB (mulI (num l (cq + 1)) e p.Q) p.Q))).drewN n' := ⟨_, rfl⟩
                  rw [← hw12]
                  have HGR2 : Hid (w11.grownBy w12 (some Bv)) := Lib.hid (by rw [hw12]; exact grownBy_drewN (grownBy_set (grownBy_drewN (World.grownBy.refl w11 (some Bv)) nr) 1 _) n')
                  have HVC : Hid (Bk w12 Bv 36 #[.int .u64 (addI vS (mulI (num l cq) e p.Q) p.Q), .int .u64 (addI vB (mulI (num l (cq + 1)) e p.Q) p.Q)]) := Lib.hid (by rw [hw12]; exact ((HVB.out.drewN nr).set 1 _).drewN n')
                  have HFIN : Hid (Side encU encU w5.heap.size 22 22 (fun b => w5.heap.size ≤ b) w12 w19 w20 ((PL.take (j + 1)).map (·.1)) ((PL.take (j + 1)).map (·.2)) ∧ w4.grownBy w12 (some B9) ∧ Bk w12 B9 3 #[.int .i64 ((2 * (Kt + (j + 1)) : Nat) : Int)] ∧ Bk w12 Bv 36 #[.int .u64 (addI vS (mulI (num l cq) e p.Q) p.Q), .int .u64 (addI vB (mulI (num l (cq + 1)) e p.Q) p.Q)] ∧ (U64 (addI vS (mulI (num l cq) e p.Q) p.Q) ∧ U64 (addI vB (mulI (num l (cq + 1)) e p.Q) p.Q) ∧ U64 (mulI e i p.Q)) ∧ w5.heap.size ≤ w12.heap.size ∧ valGo p.Q i PL (0, 0) 1 = valGo p.Q i (PL.drop (j + 1)) (addI vS (mulI (num l cq) e p.Q) p.Q, addI vB (mulI (num l (cq + 1)) e p.Q) p.Q) (mulI e i p.Q)) := Lib.hid ⟨by rw [HT1.out, HT2.out, List.map_take, List.map_take]; exact HSB.out.keep HGR2.out HSV.out, HGB.out.andThen HGR2.out (fun j e => .inl (by injection e with e; have := HLV.out.1; omega)), by rw [HCN.out]; exact HAB.out.grown HGR2.out HNV.out.symm, HVC.out, ⟨addI_U64 _ _ _, addI_U64 _ _ _, mulI_U64 _ _ _⟩, Nat.le_trans HZB.out HGR2.out.size, HVN.out⟩
                  clear hw12 c0 c1 c3 c4 f0
                  go_wp2_with fail
                  go_roundg m3
                  case measure => omega
                  case rel => exact ⟨j + 1, _, _, _, by omega, rfl, by go_num, HFIN⟩
end Go.Proofs.YtmjdpmfcbeaecaaDoor

namespace Go.Proofs.YtmjdpmfcbeaecaaDoor
open Go.ChangeShapes Go.WideShapes Go.RowKit

set_option maxRecDepth 100000 in
theorem open_params {H : Type} {enc : TypeId × Value → H} {w : World} {base : Nat} {spare : Nat → Bool} {held : Bool} {r : Reach} {b0 : Nat} {v : Value} {d : DataW H} {pl : List MemPlace}
    (hv : Value.okWide Tryd.prog w r b0 24 v) (h : DataW.Trod enc Tryd.prog w base spare held 24 v d pl) : ∃ p : Par, v = p.v ∧ p.ok := by
  obtain ⟨cs, rfl, hsz⟩ := okWide_struct Tryd.underlying24 hv
  obtain ⟨l⟩ := cs
  have hc : Tryd.prog.cellsOf 24 = 12 := by kernel_rfl
  have cu : Tryd.prog.cellsOf 22 = 1 := by kernel_rfl
  have ci : Tryd.prog.cellsOf 3 = 1 := by kernel_rfl
  have cj : Tryd.prog.cellsOf 2 = 1 := by kernel_rfl
  match l, hsz.trans hc with
  | [c0, c1, c2, c3, c4, c5, c6, c7, c8, c9, c10, c11], _ =>
    obtain ⟨fuel, hf⟩ := h
    obtain ⟨xs, n, _, _, _, hlen, hg⟩ := DataW.trod_struct Tryd.underlying24 hf
    match xs, hlen with
    | [y0, y1, y2, y3, y4, y5, y6, y7, y8, y9, y10, y11], _ =>
      have g0 := hg 0 _ rfl
      have g1 := hg 1 _ rfl
      have g2 := hg 2 _ rfl
      have g3 := hg 3 _ rfl
      have g4 := hg 4 _ rfl
      have g5 := hg 5 _ rfl
      have g6 := hg 6 _ rfl
      have g7 := hg 7 _ rfl
      have g8 := hg 8 _ rfl
      have g9 := hg 9 _ rfl
      have g10 := hg 10 _ rfl
      have g11 := hg 11 _ rfl
      simp [Value.cells, cu, ci, cj] at g0 g1 g2 g3 g4 g5 g6 g7 g8 g9 g10 g11
      obtain ⟨a0, e0, _, w0⟩ := DataW.trod_int Tryd.underlying22 g0
      simp at e0
      obtain ⟨a1, e1, _, w1⟩ := DataW.trod_int Tryd.underlying22 g1
      simp at e1
      obtain ⟨a2, e2, _, w2⟩ := DataW.trod_int Tryd.underlying22 g2
      simp at e2
      obtain ⟨a3, e3, _, w3⟩ := DataW.trod_int Tryd.underlying22 g3
      simp at e3
      obtain ⟨a4, e4, _, w4⟩ := DataW.trod_int Tryd.underlying3 g4
      simp at e4
      obtain ⟨a5, e5, _, w5⟩ := DataW.trod_int Tryd.underlying3 g5
      simp at e5
      obtain ⟨a6, e6, _, w6⟩ := DataW.trod_int Tryd.underlying3 g6
      simp at e6
      obtain ⟨a7, e7, _, w7⟩ := DataW.trod_int Tryd.underlying3 g7
      simp at e7
      obtain ⟨a8, e8, _, w8⟩ := DataW.trod_int Tryd.underlying3 g8
      simp at e8
      obtain ⟨a9, e9, _, w9⟩ := DataW.trod_int Tryd.underlying3 g9
      simp at e9
      obtain ⟨a10, e10, _, w10⟩ := DataW.trod_int Tryd.underlying2 g10
      simp at e10
      obtain ⟨a11, e11, _, w11⟩ := DataW.trod_int Tryd.underlying2 g11
      simp at e11
      subst e0 e1 e2 e3 e4 e5 e6 e7 e8 e9 e10 e11
      exact ⟨⟨a0, a1, a2, a3, a4, a5, a6, a7, a8, a9, a10, a11⟩, rfl, ⟨u64_wf w0, u64_wf w1, u64_wf w2, u64_wf w3, i64_wf w4, i64_wf w5, i64_wf w6, i64_wf w7, i64_wf w8, i64_wf w9, i64_wf w10, i64_wf w11⟩⟩
set_option maxRecDepth 100000 in
theorem open_pair {H : Type} {enc : TypeId × Value → H} {w : World} {base : Nat} {spare : Nat → Bool} {held : Bool} {r : Reach} {b0 : Nat} {v : Value} {d : DataW H} {pl : List MemPlace}
    (hv : Value.okWide Tryd.prog w r b0 36 v) (h : DataW.Trod enc Tryd.prog w base spare held 36 v d pl) : ∃ x : Int × Int, v = .agg #[.int .u64 x.1, .int .u64 x.2] ∧ U64 x.1 ∧ U64 x.2 := by
  obtain ⟨cs, rfl, hsz⟩ := okWide_struct Tryd.underlying36 hv
  obtain ⟨l⟩ := cs
  have hc : Tryd.prog.cellsOf 36 = 2 := by kernel_rfl
  have cu : Tryd.prog.cellsOf 22 = 1 := by kernel_rfl
  match l, hsz.trans hc with
  | [c0, c1], _ =>
    obtain ⟨fuel, hf⟩ := h
    obtain ⟨xs, n, _, _, _, hlen, hg⟩ := DataW.trod_struct Tryd.underlying36 hf
    match xs, hlen with
    | [y0, y1], _ =>
      have g0 := hg 0 _ rfl
      have g1 := hg 1 _ rfl
      simp [Value.cells, cu] at g0 g1
      obtain ⟨a0, e0, _, w0⟩ := DataW.trod_int Tryd.underlying22 g0
      obtain ⟨a1, e1, _, w1⟩ := DataW.trod_int Tryd.underlying22 g1
      simp at e0 e1
      subst e0 e1
      exact ⟨(a0, a1), rfl, u64_wf w0, u64_wf w1⟩
theorem cells_u64 : Tryd.prog.cellsOf 22 = 1 := by kernel_rfl
theorem reads_nums : Reads (encS encU) 37 := reads_sl Tryd.underlying37 (reads_u64 Tryd.underlying22) cells_u64
theorem cells_pair : Tryd.prog.cellsOf 36 = 2 := by kernel_rfl
theorem reads_pairs : Reads (encS encP) 25 := reads_sl Tryd.underlying25 (reads_pair Tryd.underlying36 ⟨rfl, rfl⟩ ⟨rfl, rfl⟩ Tryd.underlying22 cells_pair cells_u64) cells_pair
theorem cells_nums : Tryd.prog.cellsOf 37 = 1 := by kernel_rfl
theorem reads_rows : Reads (encS (encS encU)) 34 := reads_sl Tryd.underlying34 reads_nums cells_nums
theorem cells_rows : Tryd.prog.cellsOf 34 = 1 := by kernel_rfl
theorem reads_mat : Reads (encS (encS (encS encU))) 89 := reads_sl Tryd.underlying89 reads_rows cells_rows
theorem cells_pairs : Tryd.prog.cellsOf 25 = 1 := by kernel_rfl
theorem reads_prows : Reads (encS (encS encP)) 32 := reads_sl Tryd.underlying32 reads_pairs cells_pairs
theorem cells_int : Tryd.prog.cellsOf 3 = 1 := by kernel_rfl
theorem reads_ints : Reads (encS encI) 28 := reads_sl Tryd.underlying28 (reads_i64 Tryd.underlying3) cells_int
end Go.Proofs.YtmjdpmfcbeaecaaDoor

namespace Go.Proofs.YtmjdpmfcbeaecaaDoor
open Go.RowKit
theorem grown_drewN (w : World) : ∀ n, Grown w (w.drewN n)
  | 0 => Grown.refl w
  | n + 1 => (grown_drewN w n).drew
def tabL : List Int := [0, 1, 56, 2, 57, 49, 28, 3, 61, 58, 42, 50, 38, 29, 17, 4, 62, 47, 59, 36, 45, 43, 51, 22, 53, 39, 33, 30, 24, 18, 12, 5, 63, 55, 48, 27, 60, 41, 37, 16, 46, 35, 44, 21, 52, 32, 23, 11, 54, 26, 40, 15, 34, 20, 31, 10, 25, 14, 19, 9, 13, 8, 7, 6]
theorem tabZ' : ∀ j, j < 64 → tabL.getD j 0 = ((Lib.deBruijn64tab.getD j 0 : Nat) : Int) := by decide
theorem tabZ (j : Nat) (hj : j < Lib.deBruijn64tab.length) : tabL.getD j 0 = ((Lib.deBruijn64tab.getD j 0 : Nat) : Int) := tabZ' j hj
/-- What an initialiser lays into a variable's block. -/
def layCells (cs : Array Value) : Obj → Obj
  | .cells _ t f => .cells cs t f
  | o => o
end Go.Proofs.YtmjdpmfcbeaecaaDoor

namespace Go.Proofs.YtmjdpmfcbeaecaaDoor.shareFits
open Go.ChangeShapes Go.WideShapes Go.ChangeAt Go.RowKit
set_option linter.unusedVariables false
theorem own : ownKnob Tryd.prog.godebug = none := by kernel_rfl
theorem gA : Tryd.prog.globalNamed "math/bits.deBruijn64tab" = some 1 := by kernel_rfl
theorem gB : Tryd.prog.globalNamed "consistory/mod.tried" = some 0 := by kernel_rfl
theorem tA : (Tryd.prog.globals[1]?).map (·.type) = some 138 := by kernel_rfl
theorem tB : (Tryd.prog.globals[0]?).map (·.type) = some 123 := by kernel_rfl
theorem cA : Tryd.prog.cellsOf 138 = 64 := by kernel_rfl
theorem cB : Tryd.prog.cellsOf 123 = 12 := by kernel_rfl
theorem c8 : Tryd.prog.cellsOf 5 = 1 := by kernel_rfl
theorem c64 : Tryd.prog.cellsOf 22 = 1 := by kernel_rfl
theorem tabs {W : World} (h : laidMetH Tryd.prog Rows.shareFitsRow.laid W) : TabsAt W := by
  have h1 : laidMet Tryd.prog Rows.shareFitsRow.laid W := h
  have a := Lib.tabIs_of_head (zs := [0, 1, 56, 2, 57, 49, 28, 3, 61, 58, 42, 50, 38, 29, 17, 4, 62, 47, 59, 36, 45, 43, 51, 22, 53, 39, 33, 30, 24, 18, 12, 5, 63, 55, 48, 27, 60, 41, 37, 16, 46, 35, 44, 21, 52, 32, 23, 11, 54, 26, 40, 15, 34, 20, 31, 10, 25, 14, 19, 9, 13, 8, 7, 6]) gA tA Tryd.underlying138 Tryd.underlying5 c8 cA h1
  have b := Lib.tabIs_of_head (rest := []) (zs := triedL) gB tB Tryd.underlying123 Tryd.underlying22 c64 cB (laidMet.tail h1)
  exact ⟨fun j hj => by rw [a.cell gA j hj]; exact congrArg (fun z => some (Value.int .u8 z)) (tabZ j hj), fun j hj => b.cell gB j hj⟩
theorem walk (p0 : Par) (v1 : Value) (l1 : List Int) (a2 : Int) (a3 : Int) (w : World) (w0 : p0.ok) (w1 : Sl encU (fun _ => True) w v1 l1) (w2 : (Lit.int .u64 a2).wf = true) (w3 : (Lit.int .i64 a3).wf = true) (hT : TabsAt w) :
    Calls Tryd.prog 4 #[p0.v, v1, .int .u64 a2, .int .i64 a3] w fun e w' => e = .returned (.bool true) ∧ Below w.heap.size w w' :=
  (sfits_any p0 v1 l1 a2 a3 w w0 w1 (u64_wf w2) (i64_wf w3) hT).mono fun _ _ ⟨he, hg⟩ => ⟨he, below_grown hg⟩
theorem laidOut : laidOutB Tryd.prog = true := by kernel_rfl
set_option maxRecDepth 100000 in
theorem contract (H : Type) (enc : TypeId × Value → H) (W : World) (base : Nat) (args : Array Value) (ds gs : List (DataW H)) (before : List MemPlace)
    (hval : ∀ (j : Nat) t v, Tryd.f4.params[j]? = some t → args[j]? = some v → Value.okWide Tryd.prog W .any base t v)
    (hW : DataW.Whole enc Tryd.prog Tryd.f4.params.toList Rows.shareFitsSpec.vars false W args.toList ds gs before) (hL : laidMetH Tryd.prog Rows.shareFitsRow.laid W) :
    Calls Tryd.prog 4 args W fun e W' => ∃ v, e = .returned v ∧ Rows.shareFitsSpec.post enc Tryd.prog Tryd.f4 false true false false W args v W' := by
  have hW' := hW
  obtain ⟨p, q, hA0, hV, rfl, hfz, hnd⟩ := hW
  have hA : DataW.TrodAll enc Tryd.prog W 0 (fun _ => true) true Tryd.f4.params.toList args.toList ds p := hA0
  rw [Tryd.params4] at hA hval
  obtain ⟨v0, vs0, d0, ds0, p0, q0, hargs, rfl, rfl, h0, r0⟩ := trodAll_cons hA
  obtain ⟨v1, vs1, d1, ds1, p1, q1, rfl, rfl, rfl, h1, r1⟩ := trodAll_cons r0
  obtain ⟨v2, vs2, d2, ds2, p2, q2, rfl, rfl, rfl, h2, r2⟩ := trodAll_cons r1
  obtain ⟨v3, vs3, d3, ds3, p3, q3, rfl, rfl, rfl, h3, r3⟩ := trodAll_cons r2
  obtain ⟨rfl, rfl, rfl⟩ := trodAll_nil r3
  obtain rfl : args = #[v0, v1, v2, v3] := by cases args; simp_all
  obtain ⟨rfl, rfl⟩ := trodVars_none hV
  have k0 := h0
  have lt0 : ∀ x ∈ p0, x.block < W.heap.size := by obtain ⟨m, hm⟩ := k0; exact DataW.trod_lt m _ _ _ hm
  obtain ⟨q0', rfl, w0⟩ := open_params (hval 0 24 v0 rfl rfl) k0
  obtain ⟨a1, len1, cap1, rfl⟩ := okWide_slice Tryd.underlying37 (hval 1 37 v1 rfl rfl)
  have k1 := h1
  have lt1 : ∀ x ∈ p1, x.block < W.heap.size := by obtain ⟨m, hm⟩ := k1; exact DataW.trod_lt m _ _ _ hm
  obtain ⟨l1, w1⟩ := open_sl reads_nums k1
  obtain ⟨a2, rfl, rfl, rfl, w2⟩ := open_int Tryd.underlying22 (hval 2 22 v2 rfl rfl) h2
  obtain ⟨a3, rfl, rfl, rfl, w3⟩ := open_int Tryd.underlying3 (hval 3 3 v3 rfl rfl) h3
  clear hA0
  refine (walk q0' _ l1 a2 a3 W w0 w1 w2 w3 (tabs hL)).mono fun e W' ⟨he, bel⟩ => ?_
  subst he
  exact ⟨_, rfl, _, _, _, [], _, [], hW', trodAll_mk1 (shut_bool Tryd.underlying4 _), (trodAll_cons_mk (Below.trod laidOut (by kernel_rfl) (of_decide_eq_true (by kernel_rfl)) k0 bel lt0) (trodAll_cons_mk (Below.trod laidOut (by kernel_rfl) (of_decide_eq_true (by kernel_rfl)) k1 bel lt1) (trodAll_cons_mk (shut_int Tryd.underlying22 w2) (trodAll_cons_mk (shut_int Tryd.underlying3 w3) trodAll_mk0)))), rfl, bel.frame _, fun h => by cases h⟩
/-- A world for the witness: the settled one, the two tables laid. -/
noncomputable def laidWorld (os : Os) : World :=
  { World.holding Tryd.prog os ⟨#[], #[], []⟩ with heap := ((World.holding Tryd.prog os ⟨#[], #[], []⟩).heap.modify 0 (layCells #[.int .u64 2, .int .u64 3, .int .u64 5, .int .u64 7, .int .u64 11, .int .u64 13, .int .u64 17, .int .u64 19, .int .u64 23, .int .u64 29, .int .u64 31, .int .u64 37])).modify 1 (layCells #[.int .u8 0, .int .u8 1, .int .u8 56, .int .u8 2, .int .u8 57, .int .u8 49, .int .u8 28, .int .u8 3, .int .u8 61, .int .u8 58, .int .u8 42, .int .u8 50, .int .u8 38, .int .u8 29, .int .u8 17, .int .u8 4, .int .u8 62, .int .u8 47, .int .u8 59, .int .u8 36, .int .u8 45, .int .u8 43, .int .u8 51, .int .u8 22, .int .u8 53, .int .u8 39, .int .u8 33, .int .u8 30, .int .u8 24, .int .u8 18, .int .u8 12, .int .u8 5, .int .u8 63, .int .u8 55, .int .u8 48, .int .u8 27, .int .u8 60, .int .u8 41, .int .u8 37, .int .u8 16, .int .u8 46, .int .u8 35, .int .u8 44, .int .u8 21, .int .u8 52, .int .u8 32, .int .u8 23, .int .u8 11, .int .u8 54, .int .u8 26, .int .u8 40, .int .u8 15, .int .u8 34, .int .u8 20, .int .u8 31, .int .u8 10, .int .u8 25, .int .u8 14, .int .u8 19, .int .u8 9, .int .u8 13, .int .u8 8, .int .u8 7, .int .u8 6]) }
theorem laid_met (os : Os) : laidMet Tryd.prog Rows.shareFitsRow.laid ((laidWorld os).forCall (fun _ _ => 0) ⟨#[], #[.agg #[.int .u64 0, .int .u64 0, .int .u64 0, .int .u64 0, .int .i64 0, .int .i64 0, .int .i64 0, .int .i64 0, .int .i64 0, .int .i64 0, .int .i64 0, .int .i64 0], .slice none 0 0, .int .u64 0, .int .i64 0], []⟩).memory :=
  laidMet_of_run' 8 (by kernel_rfl) (by kernel_rfl)
theorem reads (os : Os) {H : Type} (enc : TypeId × Value → H) : ∃ places, DataW.whole enc Tryd.prog ((laidWorld os).forCall (fun _ _ => 0) ⟨#[], #[.agg #[.int .u64 0, .int .u64 0, .int .u64 0, .int .u64 0, .int .i64 0, .int .i64 0, .int .i64 0, .int .i64 0, .int .i64 0, .int .i64 0, .int .i64 0, .int .i64 0], .slice none 0 0, .int .u64 0, .int .i64 0], []⟩).memory Tryd.f4.params.toList Rows.shareFitsSpec.vars false (#[.agg #[.int .u64 0, .int .u64 0, .int .u64 0, .int .u64 0, .int .i64 0, .int .i64 0, .int .i64 0, .int .i64 0, .int .i64 0, .int .i64 0, .int .i64 0, .int .i64 0], .slice none 0 0, .int .u64 0, .int .i64 0] : Array Value).toList 8 = some ([.agg [.lit (.int .u64 0), .lit (.int .u64 0), .lit (.int .u64 0), .lit (.int .u64 0), .lit (.int .i64 0), .lit (.int .i64 0), .lit (.int .i64 0), .lit (.int .i64 0), .lit (.int .i64 0), .lit (.int .i64 0), .lit (.int .i64 0), .lit (.int .i64 0)], .nil, .lit (.int .u64 0), .lit (.int .i64 0)], [], places) :=
  ⟨[], by kernel_rfl⟩
set_option maxRecDepth 100000 in
theorem lifted (os : Os) (started : os.Started) (H : Type) (enc : TypeId × Value → H) (F : Stop.Interp) :
    ReturnsInHanded {} Tryd.checked os 4 .any ((OpenSpec.ofChange Rows.shareFitsSpec).preRow enc Tryd.prog Tryd.f4 Rows.shareFitsRow.domain false Rows.shareFitsRow.laid) (((OpenSpec.ofChange Rows.shareFitsSpec).at F).post enc Tryd.prog Tryd.f4 false true false false) := by
  obtain ⟨places, hx⟩ := reads os enc
  refine returnsInHanded_of_row (C := Tryd.checked) (s := OpenSpec.ofChange Rows.shareFitsSpec) own started (by kernel_rfl) Tryd.func4
    (witness_row_at (enc := enc) (C := Tryd.checked) false (laidWorld os) #[.agg #[.int .u64 0, .int .u64 0, .int .u64 0, .int .u64 0, .int .i64 0, .int .i64 0, .int .i64 0, .int .i64 0, .int .i64 0, .int .i64 0, .int .i64 0, .int .i64 0], .slice none 0 0, .int .u64 0, .int .i64 0] rfl (by kernel_rfl) (by kernel_rfl) (by kernel_rfl)
      (OpenSpec.preRow_of_cond 8 hx (by kernel_rfl) (fun k hk => by cases hk) (by kernel_rfl) (laid_met os))) ?_
  intro W base args ds gs before hval hW _ _ _ hL _ _
  exact contract H enc W base args ds gs before hval hW hL
set_option maxRecDepth 100000 in
theorem said : Rows.ShareFitsSaid :=
  OpenClaim.holds_of_cond 4 Tryd.f4 rfl rfl rfl rfl rfl rfl rfl ⟨rfl, rfl, rfl, rfl, rfl⟩ rfl rfl rfl rfl rfl (by kernel_rfl) Tryd.func4 (by kernel_rfl)
    (of_decide_eq_true (by kernel_rfl)) (by unfold Func.isWrapper; first | (rw [if_pos (by decide +kernel)]; kernel_rfl) | (rw [if_neg (by decide +kernel)]; exact ⟨rfl, rfl⟩))
    (fun os started H enc _ F => by rw [OpenClaim.pre_eq_preRow]; exact lifted os started H enc F)
set_option maxRecDepth 100000 in
theorem plain (f : FuncId) (fn : Func) (hf : Tryd.pinned.checked.prog.funcNamed "consistory/consistorylaw20.ShareFits" = some f) (hfn : Tryd.pinned.checked.prog.funcs[f]? = some fn) :
    false = Tryd.pinned.checked.prog.looks [] ∧ ∀ (j : Nat) t, fn.params[j]? = some t → Tryd.pinned.checked.prog.wantsStandIn t = false := by
  obtain rfl : f = 4 := Option.some.inj ((show Tryd.prog.funcNamed "consistory/consistorylaw20.ShareFits" = some 4 by kernel_rfl).symm.trans hf) |>.symm
  obtain rfl : fn = Tryd.f4 := (Option.some.inj (Tryd.func4.symm.trans hfn)).symm
  refine ⟨by kernel_rfl, fun j t ht => ?_⟩
  rw [Tryd.params4] at ht
  have hmem := Array.mem_of_getElem? ht
  have hor : t = 24 ∨ t = 37 ∨ t = 22 ∨ t = 3 := by simpa using hmem
  rcases hor with rfl | rfl | rfl | rfl
  all_goals first | exact (show Tryd.prog.wantsStandIn 37 = false by kernel_rfl) | exact (show Tryd.prog.wantsStandIn 24 = false by kernel_rfl) | exact (show Tryd.prog.wantsStandIn 3 = false by kernel_rfl) | exact (show Tryd.prog.wantsStandIn 22 = false by kernel_rfl)
set_option maxRecDepth 100000 in
theorem card : Rows.ShareFitsCardSaid :=
  Claim7.holds_tied_plain_at .later [] _ _ _ _ said (fun _ h => by cases h) (by kernel_rfl) (fun _ h => by cases h) shareFits_row_tie rfl ⟨rfl, rfl⟩ (by kernel_rfl) rfl plain (by kernel_rfl)
end Go.Proofs.YtmjdpmfcbeaecaaDoor.shareFits
