/- consistorylaw20.some, walked; three lists side by side. The plain law of ShareWhole: the shares of T + 1 members come to the secrets, and these are the model's. deal.Model, walked (printed by mk_dealm.py). Slices of numbers and the blocks in which they do not lie. tape.Next with draws told ahead, At, New, slices.Clone, Of, walked. tape.Of, Next over any tape, Draws, walked. A tape of which draws were told ahead, told to what deals. deal.cut, walked. deal: small, secrets, paired, lists, OpenPairs, OpenComs, walked. deal: lists, OpenPairs, OpenComs, Open, walked. deal.Pairs, walked. The same steps, where the region does not draw its order. consistorylaw18.works, walked (printed by mk_wk.py). -/
import Derived.Test.YtonkbmknanpchaaDoorZ3
import Derived.IntWalk
import Derived.Lib.SliceRun
import Derived.Deep.LoopGhost
import Derived.Outline
import Derived.Deep.RegionHeld3
import Derived.Deep.DeepCutAuto
import Derived.Deep.QuietTactic
import Derived.BigQuiet
import Derived.Deep.OwnRows
namespace Go.Proofs.YtonkbmknanpchaaDoor
open Go Go.RowKit

/-- n unlike members of all, by a number. -/
def someI (n all which : Int) : List Int := (List.range n.toNat).map fun i : Nat => 1 + ((which % 18446744073709551616) % all + (i : Int)) % all
theorem someI_in {n all which : Int} (ha : 0 < all) : ∀ x ∈ someI n all which, 1 ≤ x ∧ x ≤ all := by
  intro x hx
  obtain ⟨i, _, rfl⟩ := List.mem_map.1 hx
  have h1 := Int.emod_nonneg ((which % 18446744073709551616) % all + (i : Int)) (show all ≠ 0 by omega)
  have h2 := Int.emod_lt_of_pos ((which % 18446744073709551616) % all + (i : Int)) ha
  omega
set_option maxHeartbeats 400000 in
theorem secrets20_any (p : Par) (w : World) :
    Calls Tryd.prog 34 #[p.v] w fun e w' => e = .returned (.int .i64 (secretsI p)) ∧ w.grownBy w' none := by
  go_enter Tryd.func34, Tryd.ntmps34
  go_wp2
  go_ret
  exact ⟨rfl, World.grownBy_alloc w _ none⟩
/-- Three lists built side by side. -/
structure Tri {α β γ : Type} (E : Enc α) (F : Enc β) (G : Enc γ) (base : Nat) (e f g : TypeId) (Z : Nat → Prop) (w : World) (v u t : Value) (xs : List α) (ys : List β) (zs : List γ) : Prop where
  fst : Acc E base e (fun b => Z b ∧ some b ≠ u.ownBlock ∧ some b ≠ t.ownBlock) w v xs
  snd : Acc F base f (fun b => Z b ∧ some b ≠ v.ownBlock ∧ some b ≠ t.ownBlock) w u ys
  trd : Acc G base g (fun b => Z b ∧ some b ≠ v.ownBlock ∧ some b ≠ u.ownBlock) w t zs
section
variable {α β γ : Type} {E : Enc α} {F : Enc β} {G : Enc γ} {base : Nat} {e f g : TypeId} {Z : Nat → Prop} {w w' : World} {v u t v' u' t' : Value} {xs xs' : List α} {ys ys' : List β} {zs zs' : List γ}
theorem Tri.kept (h : Tri E F G base e f g Z w v u t xs ys zs) (hg : w.grownBy w' none) : Tri E F G base e f g Z w' v u t xs ys zs := ⟨h.fst.kept hg, h.snd.kept hg, h.trd.kept hg⟩
theorem Tri.rot (h : Tri E F G base e f g Z w v u t xs ys zs) : Tri F G E base f g e Z w u t v ys zs xs := ⟨h.snd.more fun _ _ x => ⟨x.1, x.2.2, x.2.1⟩, h.trd.more fun _ _ x => ⟨x.1, x.2.2, x.2.1⟩, h.fst⟩
theorem Tri.one (h : Tri E F G base e f g Z w v u t xs ys zs) (ha : Acc E base e (fun b => Z b ∧ some b ≠ u.ownBlock ∧ some b ≠ t.ownBlock) w' v' xs') (hg : w.grownBy w' v.ownBlock) (hm : Moved w v v') : Tri E F G base e f g Z w' v' u t xs' ys zs := by
  have k : ∀ b, b < w.heap.size → some b ≠ v.ownBlock → some b ≠ v'.ownBlock := fun b hb hx e => hm.ne hb (fun e' => hx e'.symm) e.symm
  refine ⟨ha, ?_, ?_⟩
  · have h1 : Acc F base f (fun b => (Z b ∧ some b ≠ v'.ownBlock ∧ some b ≠ t.ownBlock) ∧ some b ≠ v.ownBlock) w u ys := h.snd.more fun b hb hx => ⟨⟨hx.1, k b hb hx.2.1, hx.2.2⟩, hx.2.1⟩
    exact (h1.keep hg fun g hx => hx.2).more fun g _ hx => hx.1
  · have h1 : Acc G base g (fun b => (Z b ∧ some b ≠ v'.ownBlock ∧ some b ≠ u.ownBlock) ∧ some b ≠ v.ownBlock) w t zs := h.trd.more fun b hb hx => ⟨⟨hx.1, k b hb hx.2.1, hx.2.2⟩, hx.2.1⟩
    exact (h1.keep hg fun g hx => hx.2).more fun g _ hx => hx.1
theorem Tri.two (h : Tri E F G base e f g Z w v u t xs ys zs) (ha : Acc F base f (fun b => Z b ∧ some b ≠ v.ownBlock ∧ some b ≠ t.ownBlock) w' u' ys') (hg : w.grownBy w' u.ownBlock) (hm : Moved w u u') : Tri E F G base e f g Z w' v u' t xs ys' zs := ((h.rot.one (ha.more fun _ _ x => ⟨x.1, x.2.2, x.2.1⟩) hg hm).rot.rot)
theorem Tri.three (h : Tri E F G base e f g Z w v u t xs ys zs) (ha : Acc G base g (fun b => Z b ∧ some b ≠ v.ownBlock ∧ some b ≠ u.ownBlock) w' t' zs') (hg : w.grownBy w' t.ownBlock) (hm : Moved w t t') : Tri E F G base e f g Z w' v u t' xs ys zs' := ((h.rot.rot.one (ha.more fun _ _ x => x) hg hm).rot)
theorem Tri.nil (E : Enc α) (F : Enc β) (G : Enc γ) (base : Nat) (e f g : TypeId) (Z : Nat → Prop) (w : World) : Tri E F G base e f g Z w (.slice none 0 0) (.slice none 0 0) (.slice none 0 0) [] [] [] := ⟨Acc.nil _ _ _ _ _, Acc.nil _ _ _ _ _, Acc.nil _ _ _ _ _⟩
theorem Tri.new1 (h : Tri E F G base e f g Z w v u t xs ys zs) (hZ : ∀ b, w.heap.size ≤ b → Z b) : ∀ b, w.heap.size ≤ b → Z b ∧ some b ≠ u.ownBlock ∧ some b ≠ t.ownBlock := fun b hb => ⟨hZ b hb, fun e => by have := (h.snd.lt b e.symm).2; omega, fun e => by have := (h.trd.lt b e.symm).2; omega⟩
theorem Tri.new2 (h : Tri E F G base e f g Z w v u t xs ys zs) (hZ : ∀ b, w.heap.size ≤ b → Z b) : ∀ b, w.heap.size ≤ b → Z b ∧ some b ≠ v.ownBlock ∧ some b ≠ t.ownBlock := fun b hb => ⟨hZ b hb, fun e => by have := (h.fst.lt b e.symm).2; omega, fun e => by have := (h.trd.lt b e.symm).2; omega⟩
theorem Tri.new3 (h : Tri E F G base e f g Z w v u t xs ys zs) (hZ : ∀ b, w.heap.size ≤ b → Z b) : ∀ b, w.heap.size ≤ b → Z b ∧ some b ≠ v.ownBlock ∧ some b ≠ u.ownBlock := fun b hb => ⟨hZ b hb, fun e => by have := (h.fst.lt b e.symm).2; omega, fun e => by have := (h.snd.lt b e.symm).2; omega⟩
end
end Go.Proofs.YtonkbmknanpchaaDoor

namespace Go.Proofs.YtonkbmknanpchaaDoor
open Go.RowKit

theorem evalI_cons' (q : Int) (y : Int) (c : List Int) (x : Int) : evalI q (y :: c) x = addI (mulI (evalI q c x) x q) y q := by simp [evalI, evalGo]
theorem evalI_cg' {q : Int} (hq : mayB q = true) (x : Int) : ∀ (c : List Int), Cg q (evalI q c x) (evZ x c)
  | [] => Cg.refl _ _
  | y :: c => by
    rw [evalI_cons', addI_yes _ _ _ hq, mulI_yes _ _ _ hq]
    refine (Cg.mod _ _).trans (((Cg.mod _ _).trans ((evalI_cg' hq x c).mul_right x)).add (Cg.refl _ y) |>.trans (Cg.of_eq ?_))
    show evZ x c * x + y = y + x * evZ x c
    rw [Int.mul_comm, Int.add_comm]
theorem places_some (k : Nat) (n which : Int) (hn : 1 ≤ n) (hk : (k : Int) ≤ n) : Places n (someI k n which) := by
  refine ⟨someI_in (by omega), ?_⟩
  unfold someI
  rw [Int.toNat_natCast]
  obtain ⟨r, hr⟩ : ∃ r, r = which % 18446744073709551616 % n := ⟨_, rfl⟩
  rw [← hr]
  refine List.pairwise_map.2 (List.Pairwise.imp_of_mem (R := (· < ·)) (fun {a b} ha hb hab => ?_) List.pairwise_lt_range)
  have h1 := List.mem_range.1 ha
  have h2 := List.mem_range.1 hb
  intro e
  have e' : (r + (a : Int)) % n = (r + (b : Int)) % n := by omega
  have hd : n ∣ (r + (b : Int)) - (r + (a : Int)) := Int.dvd_of_emod_eq_zero (by rw [Int.sub_emod, e', Int.sub_self]; rfl)
  obtain ⟨q, hq⟩ := hd
  have h3 : (b : Int) - a = n * q := by omega
  have hq0 : 0 < q := by
    rcases Int.lt_or_le 0 q with h | h
    · exact h
    · have := Int.mul_le_mul_of_nonneg_left h (show (0 : Int) ≤ n by omega)
      omega
  have := Int.mul_le_mul_of_nonneg_left (show (1 : Int) ≤ q by omega) (show (0 : Int) ≤ n by omega)
  omega
/-- What member i has of a dealing. -/
def dealtI (p : Par) (F R : List (List Int)) (i : Int) : List (Int × Int) := (List.range F.length).map fun s => (evalI p.Q (F[s]?.getD []) i, evalI p.Q (R[s]?.getD []) i)
/-- The shares of T + 1 members come to what the polynomials are at 0. -/
theorem who_sum {p : Par} (hm : mayP p = true) (which : Int) {t : Nat} (ht : (t : Int) = p.T + 1) (F R : List (List Int)) (hF : (F.length : Int) = secretsI p) (hl : ∀ f ∈ F, f.length = t) :
    sumE p (someI t p.N which) ((someI t p.N which).map (dealtI p F R)) = 0 ∧ (sumL p (someI t p.N which) ((someI t p.N which).map (dealtI p F R))).map (·.1) = F.map fun f => (f[0]?.getD 0) % p.Q := by
  obtain ⟨hq, hP, ha, n1, n2, n3, t1, t2, t3, hs, k1, d1⟩ := may_apart hm
  obtain ⟨at_, hat⟩ : ∃ a, a = someI t p.N which := ⟨_, rfl⟩
  have hpl : Places p.N at_ := by rw [hat]; exact places_some t p.N which (by omega) (by omega)
  have hlen : at_.length = t := by rw [hat]; simp [someI]
  rw [← hat]
  have hmem : MemOk p at_ (at_.map (dealtI p F R)) := ⟨hm, hpl, by omega, by simp, fun x hx => by
    obtain ⟨i, _, rfl⟩ := List.mem_map.1 hx
    simpa [dealtI] using hF⟩
  refine ⟨sum_good hmem, ?_⟩
  have h0 := mayB_pos hq
  have hw := wlist_length hq ha n3 hpl (by omega) 0
  unfold sumL
  rw [if_pos (sum_good hmem), List.map_map, ← hF, Int.toNat_natCast]
  refine List.ext_getElem (by simp) fun s s1 s2 => ?_
  have hsF : s < F.length := by simpa using s2
  rw [List.getElem_map, List.getElem_range, List.getElem_map]
  show (comeP p.Q ((at_.map (dealtI p F R)).map fun x => x[s]?.getD (0, 0)) (wList p.Q at_ 0) (0, 0)).1 = _
  rw [comeP_eq _ hq _ _ _ (by simp [hw]) (Int.le_refl 0) h0 (Int.le_refl 0) h0]
  show (0 + dotZ (((at_.map (dealtI p F R)).map fun x => x[s]?.getD (0, 0)).map (·.1)) (wList p.Q at_ 0)) % p.Q = _
  rw [Int.zero_add, List.map_map, List.map_map]
  have e1 : at_.map (((·.1) ∘ (fun x : List (Int × Int) => x[s]?.getD (0, 0))) ∘ dealtI p F R) = at_.map fun i => evalI p.Q F[s] i := List.map_congr_left fun i _ => by
    simp [dealtI, hsF]
  rw [e1]
  have h1 := dotZ_cg (fun i => evalI p.Q F[s] i) (fun i => evZ i F[s]) (fun i => evalI_cg' hq i F[s]) at_ (wList p.Q at_ 0)
  have h2 := lag hq ha n3 hpl (by omega) (l := F[s]) (by rw [hlen, hl _ (List.getElem_mem hsF)])
  exact h1.trans h2
/-- The number at a place of a list, as the law draws it. -/
def drw (l : List Int) (M : Int) (a : Nat) : Int := Int.tmod (if 0 < l.length then l[a % l.length]?.getD 0 else Int.tmod (a : Int) 3) (M + 1)
theorem drw_bd (l : List Int) {M : Int} (hM : 1 ≤ M) (a : Nat) : -M ≤ drw l M a ∧ drw l M a ≤ M := by
  unfold drw
  generalize (if 0 < l.length then l[a % l.length]?.getD 0 else Int.tmod (a : Int) 3) = x
  have h1 : (Int.tmod x (M + 1)).natAbs = x.natAbs % (M + 1).natAbs := Int.natAbs_tmod x (M + 1)
  have h2 : x.natAbs % (M + 1).natAbs < (M + 1).natAbs := Nat.mod_lt _ (by omega)
  omega
theorem fixI_back {q d M : Int} (hq : mayB q = true) (hd : -M ≤ d ∧ d ≤ M) (hM : 2 * M < q) : fixI (d % q) q = d := by
  have h0 := mayB_pos hq
  have e : addI (d % q) 0 q = d % q := by rw [addI_yes _ _ _ hq, Int.add_zero]; exact Cg.mod q d
  unfold fixI
  rw [if_neg (by omega), e]
  rcases Int.lt_or_le d 0 with h | h
  · have : d % q = d + q := by
      have h1 : (d + q) % q = d % q := by simp
      rw [← h1]
      exact Int.emod_eq_of_lt (by omega) (by omega)
    rw [this, if_neg (by omega)]
    omega
  · have : d % q = d := Int.emod_eq_of_lt h (by omega)
    rw [this, if_pos (by omega)]
def whoW (p : Par) (l : List Int) : List (List Int) := (List.range p.K.toNat).map fun k => (List.range p.D.toNat).map fun d => drw l p.M (k * (p.D.toNat + 1) + d)
def whoB (p : Par) (l : List Int) : List Int := (List.range p.K.toNat).map fun k => drw l p.M (k * (p.D.toNat + 1) + p.D.toNat)
/-- The secrets, as numbers. -/
def whoS (p : Par) (l : List Int) : List Int := (List.range (secretsI p).toNat).map fun a => drw l p.M a % p.Q
theorem may_sizes {p : Par} (h : mayP p = true) : 1 ≤ p.K ∧ p.K ≤ 2 ∧ 1 ≤ p.D ∧ p.D ≤ 4 ∧ 1 ≤ p.M ∧ p.M ≤ 1048576 ∧ 2 * p.M < p.Q ∧ 1 ≤ p.X ∧ p.X ≤ 1048576 ∧ p.Q ≤ 2305843009213693952 := by
  have hh := h
  simp only [mayP, m5, m7, m8, m9, Bool.and_eq_true, withinB_iff, decide_eq_true_eq] at hh
  obtain ⟨⟨⟨⟨⟨⟨_, a5⟩, _⟩, a7⟩, a8⟩, a9⟩, _⟩ := hh
  obtain ⟨⟨k1, k2⟩, d1, d2⟩ := a5
  obtain ⟨⟨M1, M2⟩, x1, x2⟩ := a7
  have hQ : p.Q ≤ 2305843009213693952 := by
    have hq := a9.1
    unfold primeB at hq
    split at hq
    · cases hq
    · omega
  have h1 : 0 ≤ p.D * p.M * p.X := Int.mul_nonneg (Int.mul_nonneg (by omega) (by omega)) (by omega)
  exact ⟨k1, k2, d1, d2, M1, M2, by omega, x1, x2, hQ⟩
theorem secretsI_eq {p : Par} (h : mayP p = true) : secretsI p = ((p.K.toNat * (p.D.toNat + 1) : Nat) : Int) := by
  obtain ⟨k1, k2, d1, d2, _⟩ := may_sizes h
  have hk : p.K = 1 ∨ p.K = 2 := by omega
  have hd : p.D = 1 ∨ p.D = 2 ∨ p.D = 3 ∨ p.D = 4 := by omega
  unfold secretsI
  rcases hk with hk | hk <;> rcases hd with hd | hd | hd | hd <;> rw [hk, hd] <;> decide +kernel
theorem who_model {p : Par} (hm : mayP p = true) (l : List Int) : modelE p (whoS p l) = 0 ∧ modelW p (whoS p l) = whoW p l ∧ modelB p (whoS p l) = whoB p l := by
  obtain ⟨hq, hP, ha, n1, n2, n3, t1, t2, t3, hs, _, _⟩ := may_apart hm
  obtain ⟨k1, k2, d1, d2, M1, M2, hMQ, x1, x2, hQ⟩ := may_sizes hm
  have hsec := secretsI_eq hm
  have hb : ∀ a, fixI (drw l p.M a % p.Q) p.Q = drw l p.M a := fun a => fixI_back hq (drw_bd l M1 a) hMQ
  have hout : (whoS p l).any (outB p) = false := List.any_eq_false.2 fun x hx => by
    obtain ⟨a, _, rfl⟩ := List.mem_map.1 hx
    have := drw_bd l M1 a
    have hw : wrap64 (-p.M) = -p.M := IntWalk.wrap64_in _ ⟨by omega, by omega⟩
    simp [outB, hb, hw]
    omega
  have hl : (whoS p l).length = p.K.toNat * (p.D.toNat + 1) := by
    unfold whoS
    rw [List.length_map, List.length_range, hsec, Int.toNat_natCast]
  have hE : modelE p (whoS p l) = 0 := by
    unfold modelE
    rw [hs, hout, if_pos (by simp [hl, hsec, k1, d1])]
    rfl
  have hD : (p.D + 1).toNat = p.D.toNat + 1 := by omega
  have hat : ∀ a, a < p.K.toNat * (p.D.toNat + 1) → (whoS p l)[a]? = some (drw l p.M a % p.Q) := fun a h => by
    unfold whoS
    rw [hsec, Int.toNat_natCast, List.getElem?_map, List.getElem?_range h]
    rfl
  have hin : ∀ k, k < p.K.toNat → k * (p.D.toNat + 1) + (p.D.toNat + 1) ≤ p.K.toNat * (p.D.toNat + 1) := fun k h => by
    have := Nat.mul_le_mul_right (p.D.toNat + 1) (show k + 1 ≤ p.K.toNat from h)
    rw [Nat.succ_mul] at this
    exact this
  refine ⟨hE, ?_, ?_⟩
  · unfold modelW whoW chk
    rw [if_pos hE, List.map_map, hD]
    refine List.map_congr_left fun k hk => ?_
    have h1 := hin k (List.mem_range.1 hk)
    show (((List.drop (k * (p.D.toNat + 1)) (whoS p l)).take (p.D.toNat + 1)).take p.D.toNat).map (fun x => fixI x p.Q) = _
    refine List.ext_getElem (by simp [hl]; omega) fun d e1 e2 => ?_
    have hd : d < p.D.toNat := by simpa using e2
    have h2 := hat (k * (p.D.toNat + 1) + d) (by omega)
    obtain ⟨h3, h4⟩ := List.getElem?_eq_some_iff.1 h2
    rw [List.getElem_map, List.getElem_take, List.getElem_take, List.getElem_drop, h4, hb, List.getElem_map, List.getElem_range]
  · unfold modelB whoB chk
    rw [if_pos hE, List.map_map, hD]
    refine List.map_congr_left fun k hk => ?_
    have h1 := hin k (List.mem_range.1 hk)
    show fixI ((((List.drop (k * (p.D.toNat + 1)) (whoS p l)).take (p.D.toNat + 1))[p.D.toNat]?).getD 0) p.Q = _
    rw [List.getElem?_take_of_lt (by omega), List.getElem?_drop, hat _ (by omega)]
    exact hb _
end Go.Proofs.YtonkbmknanpchaaDoor

namespace Go.Proofs.YtonkbmknanpchaaDoor
open Go Go.RowKit Go.Shelf

/-- The polynomials that are drawn, from the k-th draw on: of a secret, and its blinder. -/
def dealF (l : List Int) (q : Int) (dr : Nat → Int) (T k s : Nat) : List Int := behI (l[s]?.getD 0) q dr T (k + s * (2 * T + 1))
def dealR (q : Int) (dr : Nat → Int) (T k s : Nat) : List Int := behI (dr (k + s * (2 * T + 1) + T)) q dr T (k + s * (2 * T + 1) + T + 1)
def dealFs (l : List Int) (q : Int) (dr : Nat → Int) (T k n : Nat) : List (List Int) := (List.range n).map (dealF l q dr T k)
def dealRs (q : Int) (dr : Nat → Int) (T k n : Nat) : List (List Int) := (List.range n).map (dealR q dr T k)
theorem dsnoc {α : Type} (f : Nat → α) (n : Nat) : (List.range (n + 1)).map f = (List.range n).map f ++ [f n] := by simp [List.range_succ]
/-- A slice of one pair in a block made since n. -/
def BlkP (n : Nat) (a b : Int) (v : Value) (w : World) : Prop := ∃ g, v = .slice (some ⟨g, 0, none⟩) 1 1 ∧ n ≤ g ∧ Bk w g 44 #[.int .u64 a, .int .u64 b]
theorem Bk.two {w : World} {b : Nat} {t : TypeId} {u v : Value} (h : Bk w b t #[u, v]) : ∀ j x, [u, v][j]? = some x → w.cell? ⟨b, j, none⟩ = some x := fun j x hv => by rw [h.cell j]; simpa using hv
/-- Where the worlds stand while a pair is put to a share. -/
def evLt (wi : World) (base N : Nat) (v : Value) (xs : List (Int × Int)) (y : Int × Int) : Lt where
  C vs W := wi.grownBy W v.ownBlock ∧ N ≤ W.heap.size ∧ match vs with
    | [] => Acc encP base 44 (fun g => base ≤ g) W v xs
    | [u] => Acc encP base 44 (fun g => base ≤ g) W u (xs ++ [y])
    | _ => False
  R _ _ _ := True
  g := fun {vs X Y} ⟨h1, h2, h3⟩ hg => ⟨h1.trans (hg.but _), Nat.le_trans h2 hg.size, by
    match vs, h3 with
    | [], h3 => exact h3.kept hg
    | [_], h3 => exact h3.kept hg⟩
theorem evLt_vs {wi : World} {base N : Nat} {v : Value} {xs : List (Int × Int)} {y : Int × Int} {vs : List Value} {W : World} (hC : (evLt wi base N v xs y).C vs W) : vs = [] ∨ ∃ u, vs = [u] := by
  obtain ⟨_, _, h⟩ := hC
  match vs, h with
  | [], _ => exact .inl rfl
  | [u], _ => exact .inr ⟨u, rfl⟩
def evP {wi : World} {base N0 : Nat} {v0 : Value} {xs : List (Int × Int)} {y : Int × Int} (N : Nat) (a b : Int) : Qv (evLt wi base N0 v0 xs y) where
  p vs v W := vs = [] → BlkP N a b v W
  fr := 0
  st := fun h hg e => by
    obtain ⟨g, e1, hb, hk⟩ := h e
    exact ⟨g, e1, hb, hk.grown hg (by simp)⟩
  sr := fun _ _ _ _ e => absurd e (by simp)
/-- The pairs of member i + 1 up to secret s. -/
def evsI (p : Par) (F R : List (List Int)) (i s : Nat) : List (Int × Int) := (List.range s).map fun k => (evalI p.Q (F[k]?.getD []) ((i : Int) + 1), evalI p.Q (R[k]?.getD []) ((i : Int) + 1))
theorem evsI_succ (p : Par) (F R : List (List Int)) (i s : Nat) : evsI p F R i (s + 1) = evsI p F R i s ++ [(evalI p.Q (F[s]?.getD []) ((i : Int) + 1), evalI p.Q (R[s]?.getD []) ((i : Int) + 1))] := dsnoc _ _
theorem evsI_all (p : Par) (F R : List (List Int)) (i : Nat) : evsI p F R i F.length = dealtI p F R ((i : Int) + 1) := rfl
set_option maxRecDepth 100000 in
set_option maxHeartbeats 8000000 in
theorem dmodel_any (p : Par) (vl : Value) (l : List Int) (X : Nat → Prop) (w : World) {g : Nat} {dr : Nat → Int} {TI : Nat → World → Prop} {bl : Nat → Prop} {most : Nat} (hT : Tp g p.Q dr TI bl most) (hp : p.ok) (hm : mayP p = true) (hTab : TabsAt w) (h : Sl encU X w vl l) (hX : ∀ b, X b → b ≠ g) (hl : (l.length : Int) = secretsI p) (k0 T : Nat) (hTT : (T : Int) = p.T) (hI : TI k0 w) (hmost : k0 + l.length * (2 * T + 1) ≤ most) :
    Calls Tryd.prog 7 #[p.v, vl, .pointer (some ⟨g, 0, none⟩)] w fun e w' => ∃ vs vc, e = .returned (.tuple #[vs, vc, .int .i64 0]) ∧ Sl (encS encP) TT w' vs ((List.range p.N.toNat).map fun i : Nat => dealtI p (dealFs l p.Q dr T k0 l.length) (dealRs p.Q dr T k0 l.length) ((i : Int) + 1)) ∧ Sl (encS encU) TT w' vc (comsI p (dealFs l p.Q dr T k0 l.length) (dealRs p.Q dr T k0 l.length)) ∧ TI (k0 + l.length * (2 * T + 1)) w' ∧ w.grownBy w' (some g) := by
  have HT := Lib.hid hT
  have HP := Lib.hid hp
  have HX := Lib.hid hX
  obtain ⟨hq, _, _, n1, n2, n3, t1, t2, t3, hs, kk1, dd1⟩ := may_apart hm
  have hsec := smallB_secrets hs
  have HQ : Hid (U64 p.Q ∧ 0 < p.Q) := Lib.hid ⟨hp.Q, mayB_pos hq⟩
  have hL10 : l.length ≤ 10 := by omega
  have hT2 : T ≤ 2 := by omega
  obtain ⟨N, hN⟩ : ∃ k : Nat, (k : Int) = p.N := ⟨p.N.toNat, by omega⟩
  have hNt : p.N.toNat = N := by omega
  have hN7 : N ≤ 7 := by omega
  have HN := Lib.hid hN
  obtain ⟨A, c, rfl, hl1, hl2⟩ := h.form
  have hGW : g < w.heap.size := hT.old hI hT.own
  have HGW := Lib.hid hGW
  have HOB : Hid (∀ b, bl b → b < w.heap.size) := Lib.hid (fun b hb => hT.old hI hb)
  obtain ⟨w0, hw0⟩ : ∃ y, y = w.alloc (Obj.cells p.cells 24) := ⟨_, rfl⟩
  have HG0 : Hid (w.grownBy w0 none) := Lib.hid (by rw [hw0]; exact World.grownBy_alloc w _ none)
  have HB0 : Hid (Bk w0 w.heap.size 24 p.cells) := Lib.hid (by rw [hw0]; exact Bk.new w _ _)
  have HI0 : Hid (TI k0 w0) := Lib.hid (hT.keep hI HG0.out (by simp))
  have HMY := Lib.hid (fun (w' : World) (hg : w0.grownBy w' none) => may_any p w' hp (hTab.kept (HG0.out.trans hg)))
  rw [hm] at HMY
  have HMAY := Lib.hid hm
  have HSEC := Lib.hid (dsecrets_any p)
  rw [← hl] at HSEC
  have HL := Lib.hid (h.kept HG0.out)
  have HTP := Lib.hid hTT
  have HMO := Lib.hid hmost
  have HLS := Lib.hid hl
  rw [hNt]
  clear hT hp hX hq n1 n2 n3 t1 t2 t3 hs kk1 dd1 hsec hm hTab h hI hTT hmost hl hGW hN hNt
  go_enter Tryd.func7, Tryd.ntmps7
  go_wp2_with fail
  rw [← hw0]
  have hp0 := HB0.out.prule
  clear hw0
  go_wp2_with fail
  refine (HMY.out _ (World.grownBy.refl _ none)).mono ?_
  rintro e w1 ⟨rfl, hg⟩
  have HG1 : Hid (w0.grownBy w1 none) := Lib.hid hg
  have hp1 := (HB0.out.grown hg (by simp)).prule
  clear hg hp0 HMY
  go_wp2_with fail
  refine (HSEC.out _).mono ?_
  rintro e w2 ⟨rfl, hg⟩
  have HG2 : Hid (w0.grownBy w2 none) := Lib.hid (HG1.out.trans hg)
  clear hg hp1 HSEC
  go_upto_region 6 with (fail)
  have HB2 : Hid (Bk w2 w.heap.size 24 p.cells) := Lib.hid (HB0.out.grown HG2.out (by simp))
  have HI2 : Hid (TI k0 w2) := Lib.hid (HT.out.keep HI0.out HG2.out (by simp))
  have HW2 : Hid (w.heap.size < w2.heap.size ∧ g < w.heap.size) := Lib.hid ⟨HB2.out.lt, HGW.out⟩
  have HPX : Hid (∀ wx, w2.grownBy wx (some g) → Bk wx w.heap.size 24 p.cells) := Lib.hid (fun wx hg => HB2.out.grown hg (fun e => by injection e with e; have := HW2.out.2; omega))
  have HLX : Hid (∀ wx, w2.grownBy wx (some g) → Sl encU X wx (.slice A l.length c) l) := Lib.hid (fun wx hg => (HL.out.kept HG2.out).keep hg (fun b hb e => HX.out b hb (by injection e with e)))
  have HBH : Hid (∀ (x : Int) (k : Nat) (wx : World), U64 x → k + T ≤ most → TI k wx → Calls Tryd.prog 37 #[.int .u64 x, .int .i64 p.T, .int .u64 p.Q, .func (.func 36) #[.pointer (some ⟨g, 0, none⟩)] #[]] wx fun e w' => ∃ v, e = .returned v ∧ Sl encU (fun b => wx.heap.size ≤ b) w' v (behI x p.Q dr T k) ∧ TI (k + T) w' ∧ wx.grownBy w' (some g)) := Lib.hid (fun x k wx hx hk hi => by
    rw [← HTP.out]
    exact behind_any HT.out x T k wx hx HQ.out.1 HQ.out.2 (by omega) hk hi)
  have HNX : Hid (∀ (k : Nat) (wx : World), k < most → TI k wx → Calls Tryd.prog 36 #[.pointer (some ⟨g, 0, none⟩), .int .u64 p.Q] wx fun e w' => e = .returned (.int .u64 (dr k)) ∧ TI (k + 1) w' ∧ wx.grownBy w' (some g)) := Lib.hid (fun k wx hk hi => HT.out.next hk hi)
  obtain ⟨L, hLL⟩ : ∃ y, y = l.length := ⟨_, rfl⟩
  have HLN := Lib.hid hLL
  rw [← hLL] at hL10 hl1 HMO HLX ⊢
  clear hLL
  go_loopg [10, 11, 31] L (fun gk s10 s11 s31 wx => ∃ s : Nat, s + gk = L ∧ s31 = .int .i64 s ∧ Hid (Side (encS encU) (encS encU) w2.heap.size 25 25 (fun b => w2.heap.size ≤ b) wx s10 s11 (dealFs l p.Q dr T k0 s) (dealRs p.Q dr T k0 s) ∧ TI (k0 + s * (2 * T + 1)) wx ∧ w2.grownBy wx (some g)))
  case atStart => exact ⟨0, by omega, rfl, Lib.hid ⟨⟨Acc.nil _ _ _ _ _, Acc.nil _ _ _ _ _⟩, by simpa using HI2.out, World.grownBy.refl _ _⟩⟩
  case round =>
    obtain ⟨s, hsL, rfl, HXX⟩ := hrel
    have HS0 := Lib.hid HXX.out.1
    have HI3 := Lib.hid HXX.out.2.1
    have HG3 := Lib.hid HXX.out.2.2
    clear HXX
    have hp3 := (HPX.out _ HG3.out).prule
    cases gk with
    | zero =>
      have eL : L = s := by omega
      subst eL
      have hno : ¬ ((L : Int) < (L : Int)) := by omega
      obtain ⟨F, hF⟩ : ∃ y, y = dealFs l p.Q dr T k0 L := ⟨_, rfl⟩
      obtain ⟨R, hR⟩ : ∃ y, y = dealRs p.Q dr T k0 L := ⟨_, rfl⟩
      rw [← hF, ← hR] at HS0
      have HFL : Hid (F.length = L ∧ R.length = L) := Lib.hid (by rw [hF, hR]; simp [dealFs, dealRs])
      have HFT : Hid ((∀ c ∈ F, c.length = T + 1) ∧ (∀ c ∈ R, c.length = T + 1)) := Lib.hid (by
        rw [hF, hR]
        refine ⟨fun c hc => ?_, fun c hc => ?_⟩
        · obtain ⟨i, _, rfl⟩ := List.mem_map.1 hc
          exact behI_len _ _ _ _ _
        · obtain ⟨i, _, rfl⟩ := List.mem_map.1 hc
          exact behI_len _ _ _ _ _)
      have HFE := Lib.hid hF
      have HRE := Lib.hid hR
      obtain ⟨AF, cF, eF, _, _⟩ := HS0.out.fst.sl.form
      obtain ⟨AR, cR, eR, _, _⟩ := HS0.out.snd.sl.form
      rw [HFL.out.1] at eF
      rw [HFL.out.2] at eR
      subst eF eR
      have hmk := run_make_row' (P := Tryd.prog) 29 38 (.slice none 0 0) 24 Tryd.underlying29 info_pairs rfl .i64 .i64 N (by omega) (by omega)
      rw [HN.out] at hmk
      obtain ⟨D0, hD0⟩ : ∃ y, y = wr.alloc (.cells (madeCells #[.slice none 0 0] N) 38) := ⟨_, rfl⟩
      obtain ⟨Bs, hBs⟩ : ∃ y, y = wr.heap.size := ⟨_, rfl⟩
      have HGA : Hid (wr.grownBy D0 none) := Lib.hid (by rw [hD0]; exact World.grownBy_alloc _ _ none)
      have HBO : Hid (Bk D0 Bs 38 (List.replicate N (.slice none 0 0)).toArray) := Lib.hid (by
        rw [hD0, hBs]
        exact (Bk.new wr 38 (madeCells #[.slice none 0 0] N)).of_eq (Array.toList_inj.1 (by rw [toList_madeCells_one])))
      have HBB : Hid (w2.heap.size ≤ Bs ∧ w.heap.size < Bs ∧ g < w.heap.size) := Lib.hid (by rw [hBs]; have := HG3.out.size; have := HW2.out; omega)
      have HBD : Hid (Bk D0 w.heap.size 24 p.cells) := Lib.hid ((HPX.out _ HG3.out).grown HGA.out (by simp))
      have HFD : Hid (Sl (encS encU) (fun b => b < Bs) D0 (.slice AF L cF) F) := Lib.hid ((HS0.out.fst.sl.bounded.kept HGA.out).more fun b _ hb => by rw [hBs]; exact hb.2)
      have HRD : Hid (Sl (encS encU) (fun b => b < Bs) D0 (.slice AR L cR) R) := Lib.hid ((HS0.out.snd.sl.bounded.kept HGA.out).more fun b _ hb => by rw [hBs]; exact hb.2)
      have HID : Hid (TI (k0 + L * (2 * T + 1)) D0) := Lib.hid (HT.out.keep HI3.out HGA.out (by simp))
      have HGD : Hid (w.grownBy D0 (some g)) := Lib.hid (((HG0.out.trans HG2.out).but _).trans (HG3.out.trans (HGA.out.but _)))
      have HLL : Hid ((List.replicate N (Value.slice none 0 0)).length = N) := Lib.hid (by simp)
      have HST : Hid (Bk D0 Bs 38 (List.replicate N (Value.slice none 0 0)).toArray ∧ (∀ i (hi : i < (List.replicate N (Value.slice none 0 0)).length), i < 0 → Sl encP (fun b => Bs < b) D0 (List.replicate N (Value.slice none 0 0))[i] (dealtI p F R ((i : Int) + 1))) ∧ (∀ i (hi : i < (List.replicate N (Value.slice none 0 0)).length), 0 ≤ i → (List.replicate N (Value.slice none 0 0))[i] = .slice none 0 0) ∧ D0.grownBy D0 (some Bs)) := Lib.hid ⟨HBO.out, fun i hi h => absurd h (Nat.not_lt_zero _), fun i hi _ => by simp, World.grownBy.refl _ _⟩
      have HPD : Hid (∀ wx, D0.grownBy wx (some Bs) → Bk wx w.heap.size 24 p.cells) := Lib.hid (fun wx hg => HBD.out.grown hg (fun e => by injection e with e; have := HBB.out; omega))
      have HFX : Hid (∀ wx, D0.grownBy wx (some Bs) → Sl (encS encU) (fun b => b < Bs) wx (.slice AF L cF) F) := Lib.hid (fun wx hg => HFD.out.keep hg (fun b hb e => by injection e with e; omega))
      have HRX : Hid (∀ wx, D0.grownBy wx (some Bs) → Sl (encS encU) (fun b => b < Bs) wx (.slice AR L cR) R) := Lib.hid (fun wx hg => HRD.out.keep hg (fun b hb e => by injection e with e; omega))
      clear hF hR HS0 HI3 HBH HNX HB0 HB2 HBO HBD HFD HRD HPX HLX HG3 HGA
      go_upto_region 13 with (fail)
      rw [← hD0, ← hBs]
      clear hD0 hBs hmk hp3
      go_loopg [64] N (fun gk s64 wx => ∃ (j : Nat) (hs : List Value), j + gk = N ∧ s64 = .int .i64 j ∧ Hid (hs.length = N) ∧ Hid (Bk wx Bs 38 hs.toArray ∧ (∀ i (hi : i < hs.length), i < j → Sl encP (fun b => Bs < b) wx hs[i] (dealtI p F R ((i : Int) + 1))) ∧ (∀ i (hi : i < hs.length), j ≤ i → hs[i] = .slice none 0 0) ∧ D0.grownBy wx (some Bs)))
      case atStart => exact ⟨0, _, by omega, rfl, HLL, HST⟩
      case round =>
        rename World => wj
        obtain ⟨i, hs, hiN, rfl, HLH, HX2⟩ := hrel
        cases gk with
        | zero =>
          obtain rfl : i = N := by omega
          have hno2 : ¬ ((i : Int) < (i : Int)) := by omega
          have HRV : Hid (Sl (encS encP) (fun b => Bs ≤ b) wj (.slice (some ⟨Bs, 0, none⟩) i i) ((List.range i).map fun k : Nat => dealtI p F R ((k : Int) + 1))) := Lib.hid (by
            obtain ⟨h1, h2, _, _⟩ := HX2.out
            have hTL : ((List.range i).map fun k : Nat => dealtI p F R ((k : Int) + 1)).length = i := by simp
            have := Sl.block (E := encS encP) (X := fun b => Bs ≤ b) (xs := (List.range i).map fun k : Nat => dealtI p F R ((k : Int) + 1)) (c := i) h1 (Nat.le_refl _) (hs.map fun v => [v]) (by rw [List.length_map, HLH.out, hTL]) (fun k hk hk' => ⟨hs[k]'(by rw [HLH.out]; omega), by simp, by
              have hc := (h2 k (by rw [HLH.out]; omega) (by omega)).more (Y := fun b => Bs ≤ b) (fun b _ hb => by omega)
              have he : ((List.range i).map fun k : Nat => dealtI p F R ((k : Int) + 1))[k] = dealtI p F R ((k : Int) + 1) := by simp
              rw [he]
              exact hc⟩) (by rw [flatten_singles]) (by rw [hTL]; exact Nat.le_refl _) (by omega)
            rw [hTL] at this
            exact this)
          have HGJ := Lib.hid HX2.out.2.2.2
          have hpj := (HPD.out _ HGJ.out).prule
          have HCM := Lib.hid (callsIn_wide.1 (coms_in 6 (Nat.le_refl _) p (.slice AF L cF) (.slice AR L cR) F R TT wj HP.out ((HFX.out _ HGJ.out).more fun _ _ _ => trivial) ((HRX.out _ HGJ.out).more fun _ _ _ => trivial) (by rw [HFL.out.1]; omega) (by rw [HFL.out.2]; omega) (fun c hc => by
            show c.length ≤ 100000
            rw [HFT.out.1 c hc]
            omega) (fun c hc => by
            show c.length ≤ 100000
            rw [HFT.out.2 c hc]
            omega)))
          clear HX2 HST HLH
          go_wp2_with fail
          refine HCM.out.mono ?_
          rintro e w9 ⟨vc, rfl, hsc, hgc⟩
          have HFIN : Hid (Sl (encS encP) TT w9 (.slice (some ⟨Bs, 0, none⟩) i i) ((List.range i).map fun k : Nat => dealtI p (dealFs l p.Q dr T k0 L) (dealRs p.Q dr T k0 L) ((k : Int) + 1)) ∧ Sl (encS encU) TT w9 vc (comsI p (dealFs l p.Q dr T k0 L) (dealRs p.Q dr T k0 L)) ∧ TI (k0 + L * (2 * T + 1)) w9 ∧ w.grownBy w9 (some g)) := Lib.hid ⟨by
            rw [← HFE.out, ← HRE.out]
            exact (HRV.out.kept hgc).more fun _ _ _ => trivial, by
            rw [← HFE.out, ← HRE.out]
            exact hsc.more fun _ _ _ => trivial, HT.out.keep (HT.out.keep HID.out HGJ.out (fun b e hb => by injection e with e; have := HOB.out b hb; have := HBB.out; omega)) hgc (by simp), HGD.out.andThen (HGJ.out.trans (hgc.but _)) (fun b e => .inl (by injection e with e; have := HBB.out; omega))⟩
          clear hsc hgc hpj
          go_wp2
          go_ret3
          refine ⟨_, _, rfl, ?_⟩
          rw [← HLN.out]
          exact HFIN.out
        | succ m =>
          have hiI : (i : Int) < (N : Int) := by omega
          have hih : i < hs.length := by rw [HLH.out]; omega
          have HIH := Lib.hid hih
          have hjB : Bs < wj.heap.size := HX2.out.1.lt
          have HJB := Lib.hid hjB
          have HIN : Hid (Acc encP wj.heap.size 44 (fun b => wj.heap.size ≤ b) wj (.slice none 0 0) (evsI p F R i 0) ∧ Bk wj Bs 38 (hs.set i (.slice none 0 0)).toArray ∧ wj.grownBy wj (some Bs)) := Lib.hid ⟨Acc.nil _ _ _ _ _, by
            have := HX2.out.2.2.1 i hih (Nat.le_refl _)
            rw [← this, List.set_getElem_self]
            exact HX2.out.1, World.grownBy.refl _ _⟩
          have HGJ := Lib.hid HX2.out.2.2.2
          clear hjB hih
          go_wp2_with fail
          go_loopg [69] L (fun gk s69 wx => ∃ (s : Nat) (v : Value), s + gk = L ∧ s69 = .int .i64 s ∧ Hid (Acc encP wj.heap.size 44 (fun b => wj.heap.size ≤ b) wx v (evsI p F R i s) ∧ Bk wx Bs 38 (hs.set i v).toArray ∧ wj.grownBy wx (some Bs)))
          case atStart => exact ⟨0, _, by omega, rfl, HIN⟩
          case round =>
            rename World => wi
            obtain ⟨s, v, hsL2, rfl, HY⟩ := hrel
            cases gk with
            | zero =>
              obtain rfl : s = L := by omega
              have HFIN : Hid (Bk wi Bs 38 (hs.set i v).toArray ∧ (∀ k (hk : k < (hs.set i v).length), k < i + 1 → Sl encP (fun b => Bs < b) wi (hs.set i v)[k] (dealtI p F R ((k : Int) + 1))) ∧ (∀ k (hk : k < (hs.set i v).length), i + 1 ≤ k → (hs.set i v)[k] = .slice none 0 0) ∧ D0.grownBy wi (some Bs)) := Lib.hid (by
                obtain ⟨h1, h2, h3⟩ := HY.out
                obtain ⟨_, k2, k3, k4⟩ := HX2.out
                refine ⟨h2, fun k hk hij => ?_, fun k hk hij => ?_, HGJ.out.trans h3⟩
                · rcases Nat.lt_or_ge k i with hlt | hge
                  · rw [List.getElem_set_ne (by omega)]
                    exact (k2 k (by simpa using hk) hlt).keep h3 (fun b hb e => by injection e with e; omega)
                  · obtain rfl : k = i := by omega
                    rw [List.getElem_set_self, ← evsI_all p F R k, HFL.out.1]
                    exact h1.sl.more (fun b _ hb => Nat.lt_of_lt_of_le HJB.out hb)
                · rw [List.getElem_set_ne (by omega)]
                  exact k3 k (by simpa using hk) (by omega))
              have HLH2 : Hid ((hs.set i v).length = N) := Lib.hid (by rw [List.length_set]; exact HLH.out)
              clear HX2 HY HST HIN
              go_wp2_with fail
              go_roundg m
              case measure => omega
              case rel => exact ⟨i + 1, _, by omega, by go_num, HLH2, HFIN⟩
            | succ q =>
              have hsI : (s : Int) < (L : Int) := by omega
              have hsF : s < F.length := by rw [HFL.out.1]; omega
              have hsR : s < R.length := by rw [HFL.out.2]; omega
              obtain ⟨hacc, hbo, hgj⟩ := HY.out
              have hgd : D0.grownBy wi (some Bs) := HGJ.out.trans hgj
              obtain ⟨gF, oF, cF', uF, eF, _, hgFl, hcF, hslF⟩ := (HFX.out _ hgd).atS hsF
              injection eF with eF1 eF2 eF3
              subst eF1 eF3
              obtain ⟨gR, oR, cR', uR, eR, _, hgRl, hcR, hslR⟩ := (HRX.out _ hgd).atS hsR
              injection eR with eR1 eR2 eR3
              subst eR1 eR3
              obtain ⟨Af, nf, cf, ef⟩ := hslF.shape
              subst ef
              obtain ⟨Ar, nr, cr, er⟩ := hslR.shape
              subst er
              obtain ⟨Av, nv, cv, ev⟩ := hacc.sl.shape
              subst ev
              have HSN := Lib.hid (evsI_succ p F R i s)
              rw [List.getElem?_eq_getElem hsF, List.getElem?_eq_getElem hsR] at HSN
              have hui : U64 ((i : Int) + 1) := ⟨by omega, by omega⟩
              obtain ⟨ea, hea⟩ : ∃ y, y = evalI p.Q F[s] ((i : Int) + 1) := ⟨_, rfl⟩
              obtain ⟨eb, heb⟩ : ∃ y, y = evalI p.Q R[s] ((i : Int) + 1) := ⟨_, rfl⟩
              simp only [Option.getD_some] at HSN
              rw [← hea, ← heb] at HSN
              have HUA : Hid (U64 ea) := Lib.hid (by rw [hea]; exact evalI_U64 _ _ _)
              have HUB : Hid (U64 eb) := Lib.hid (by rw [heb]; exact evalI_U64 _ _ _)
              obtain ⟨NN, hNN⟩ : ∃ y, y = wi.heap.size := ⟨_, rfl⟩
              have HNB : Hid (wj.heap.size ≤ NN) := Lib.hid (by rw [hNN]; exact hgj.size)
              have hown : ∀ b, (Value.slice Av nv cv).ownBlock = some b → wj.heap.size ≤ b := fun b e => (hacc.lt b e).1
              have hcv0 : wi.cell? ⟨Bs, i, none⟩ = some (.slice Av nv cv) := by rw [hbo.cell i]; simp [HIH.out]
              have hbp := HPD.out _ hgd
              have HNE : Hid (∀ b, b ≤ Bs → some b ≠ (Value.slice Av nv cv).ownBlock) := Lib.hid (fun b hb e => by have := hown b e.symm; have := HJB.out; omega)
              have HC0 : Hid ((evLt wi wj.heap.size NN (.slice Av nv cv) (evsI p F R i s) (ea, eb)).C [] wi.drew) := Lib.hid ⟨(grown_drewN' _ 1).but _, by rw [hNN]; exact Nat.le_refl _, hacc.kept (grown_drewN' _ 1)⟩
              have HLD : Hid (∀ vs W, (evLt wi wj.heap.size NN (.slice Av nv cv) (evsI p F R i s) (ea, eb)).C vs W → W.cell? ⟨w.heap.size, 1, none⟩ = some (.int .u64 p.Q) ∧ W.cell? ⟨gF, oF + s, none⟩ = some (.slice Af nf cf) ∧ W.cell? ⟨gR, oR + s, none⟩ = some (.slice Ar nr cr) ∧ W.cell? ⟨Bs, i, none⟩ = some (.slice Av nv cv)) := Lib.hid (fun vs W hC => ⟨(hbp.grown hC.1 (HNE.out _ (by have := HBB.out; omega))).cell 1, cellK hcF hC.1 (HNE.out _ (by omega)), cellK hcR hC.1 (HNE.out _ (by omega)), cellK hcv0 hC.1 (HNE.out _ (Nat.le_refl _))⟩)
              have HE1 : Hid (∀ vs W, (evLt wi wj.heap.size NN (.slice Av nv cv) (evsI p F R i s) (ea, eb)).C vs W → Calls Tryd.prog 38 #[.slice Af nf cf, .int .u64 ((i : Int) + 1), .int .u64 p.Q] W fun e w' => e = .returned (.int .u64 ea) ∧ W.grownBy w' none) := Lib.hid (fun vs W hC => by
                rw [hea]
                exact eval_any _ F[s] _ p.Q _ W (hslF.keep hC.1 (fun b hb => HNE.out b (by omega))) hui)
              have HE2 : Hid (∀ vs W, (evLt wi wj.heap.size NN (.slice Av nv cv) (evsI p F R i s) (ea, eb)).C vs W → Calls Tryd.prog 38 #[.slice Ar nr cr, .int .u64 ((i : Int) + 1), .int .u64 p.Q] W fun e w' => e = .returned (.int .u64 eb) ∧ W.grownBy w' none) := Lib.hid (fun vs W hC => by
                rw [heb]
                exact eval_any _ R[s] _ p.Q _ W (hslR.keep hC.1 (fun b hb => HNE.out b (by omega))) hui)
              have HSZ : Hid (∀ vs W, (evLt wi wj.heap.size NN (.slice Av nv cv) (evsI p F R i s) (ea, eb)).C vs W → NN ≤ W.heap.size) := Lib.hid (fun vs W hC => hC.2.1)
              have HLB : Hid (((evsI p F R i s).length + 1) * 16 ≤ 140737488355328) := Lib.hid (by simp [evsI]; omega)
              have HFR : Hid (∀ (W : World) (u0 : Value), (evLt wi wj.heap.size NN (.slice Av nv cv) (evsI p F R i s) (ea, eb)).C [u0] W → Acc encP wj.heap.size 44 (fun b => wj.heap.size ≤ b) (W.setCell ⟨Bs, i, none⟩ u0) u0 (evsI p F R i (s + 1)) ∧ Bk (W.setCell ⟨Bs, i, none⟩ u0) Bs 38 (hs.set i u0).toArray ∧ wj.grownBy (W.setCell ⟨Bs, i, none⟩ u0) (some Bs)) := Lib.hid (fun W u0 hC => by
                obtain ⟨g1, _, g3⟩ := hC
                have h3 : Acc encP wj.heap.size 44 (fun b => wj.heap.size ≤ b) W u0 (evsI p F R i (s + 1)) := by rw [HSN.out]; exact g3
                exact ⟨h3.keep (grownSet W Bs i u0) (fun b hb e => by injection e with e; have := HJB.out; omega), ((hbo.grown g1 (HNE.out _ (Nat.le_refl _))).set i u0).of_eq (by simp), ((hgj.andThen g1 (fun b e => .inl (hown b e))).andThen (grownSet W Bs i u0) (fun b e => .inr e))⟩)
              have HFRZ : Hid (∀ (W : World) (vs : List Value), (evLt wi wj.heap.size NN (.slice Av nv cv) (evsI p F R i s) (ea, eb)).C vs W → Bk W Bs 38 (hs.set i (.slice Av nv cv)).toArray) := Lib.hid (fun W vs hC => hbo.grown hC.1 (HNE.out _ (Nat.le_refl _)))
              have hcw : IntKind.u64.wrap ((i : Int) + 1) = (i : Int) + 1 := IntWalk.u64_in _ (by omega)
              have hci : IntKind.i64.wrap ((i : Int) + 1) = (i : Int) + 1 := IntWalk.i64_in _ (by omega)
              have hs0 : (0 : Int) ≤ (s : Int) := Int.natCast_nonneg s
              have hi0 : (0 : Int) ≤ (i : Int) := Int.natCast_nonneg i
              clear hacc hbo hgj hgd hslF hslR hcF hcR hea heb hNN hown hcv0 hbp hgFl hgRl eF2 eR2 HY HIN HST hui hsF hsR
              go_upto_region 18 with (fail)
              refine wp_region_late (evLt wi wj.heap.size NN (.slice Av nv cv) (evsI p F R i s) (ea, eb)) [28] 30 (by kernel_rfl) (by kernel_rfl) (by kernel_rfl) HC0.out ?_
              -- op 0 (slot 72): move
              refine LateR.mono (Qv.eq (.slice (some ⟨Bs, 0, none⟩) N N)) [] (by kernel_rfl) (by rfl) rfl (fun vs w' hC => ?_) ?_
              · refine askl_do rfl fun K hK => ?_
                go_simp
                exact hK _ _ rfl ⟨rfl, World.grownBy.refl _ none⟩
              -- op 1 (slot 73): move
              refine LateR.mono (Qv.eq (.int .i64 (i : Int))) [] (by kernel_rfl) (by rfl) rfl (fun vs w' hC => ?_) ?_
              · refine askl_do rfl fun K hK => ?_
                go_simp
                exact hK _ _ rfl ⟨rfl, World.grownBy.refl _ none⟩
              -- op 2 (slot 74): move
              refine LateR.mono (Qv.eq (.slice (some ⟨Bs, 0, none⟩) N N)) [] (by kernel_rfl) (by rfl) rfl (fun vs w' hC => ?_) ?_
              · refine askl_do rfl fun K hK => ?_
                go_simp
                exact hK _ _ rfl ⟨rfl, World.grownBy.refl _ none⟩
              -- op 3 (slot 75): move
              refine LateR.mono (Qv.eq (.int .i64 (i : Int))) [] (by kernel_rfl) (by rfl) rfl (fun vs w' hC => ?_) ?_
              · refine askl_do rfl fun K hK => ?_
                go_simp
                exact hK _ _ rfl ⟨rfl, World.grownBy.refl _ none⟩
              -- op 4 (slot 76): indexAddr
              refine LateR.mono (Qv.eq (.pointer (some ⟨Bs, i, none⟩))) [(2, 74), (3, 75)] (by kernel_rfl) (by rfl) rfl (fun vs w' hC => ?_) ?_
              · rintro _ rfl
                rintro _ rfl
                refine askl_do rfl fun K hK => ?_
                go_simp
                exact hK _ _ rfl ⟨rfl, World.grownBy.refl _ none⟩
              -- op 5 (slot 77): load
              refine LateR.mono (Qv.eq (.slice Av nv cv)) [(4, 76)] (by kernel_rfl) (by rfl) rfl (fun vs w' hC => ?_) ?_
              · rintro _ rfl
                refine askl_do rfl fun K hK => ?_
                obtain ⟨q0, q1, q2, q3⟩ := HLD.out vs w' hC
                go_simp
                exact hK _ _ rfl ⟨rfl, World.grownBy.refl _ none⟩
              -- op 6 (slot 78): move
              refine LateR.mono (Qv.eq (.slice (some ⟨gF, oF, none⟩) L cF)) [] (by kernel_rfl) (by rfl) rfl (fun vs w' hC => ?_) ?_
              · refine askl_do rfl fun K hK => ?_
                go_simp
                exact hK _ _ rfl ⟨rfl, World.grownBy.refl _ none⟩
              -- op 7 (slot 79): move
              refine LateR.mono (Qv.eq (.int .i64 (s : Int))) [] (by kernel_rfl) (by rfl) rfl (fun vs w' hC => ?_) ?_
              · refine askl_do rfl fun K hK => ?_
                go_simp
                exact hK _ _ rfl ⟨rfl, World.grownBy.refl _ none⟩
              -- op 8 (slot 80): indexAddr
              refine LateR.mono (Qv.eq (.pointer (some ⟨gF, oF + s, none⟩))) [(6, 78), (7, 79)] (by kernel_rfl) (by rfl) rfl (fun vs w' hC => ?_) ?_
              · rintro _ rfl
                rintro _ rfl
                refine askl_do rfl fun K hK => ?_
                go_simp
                exact hK _ _ rfl ⟨rfl, World.grownBy.refl _ none⟩
              -- op 9 (slot 81): load
              refine LateR.mono (Qv.eq (.slice Af nf cf)) [(8, 80)] (by kernel_rfl) (by rfl) rfl (fun vs w' hC => ?_) ?_
              · rintro _ rfl
                refine askl_do rfl fun K hK => ?_
                obtain ⟨q0, q1, q2, q3⟩ := HLD.out vs w' hC
                go_simp
                exact hK _ _ rfl ⟨rfl, World.grownBy.refl _ none⟩
              -- op 10 (slot 82): move
              refine LateR.mono (Qv.eq (.int .i64 (i : Int))) [] (by kernel_rfl) (by rfl) rfl (fun vs w' hC => ?_) ?_
              · refine askl_do rfl fun K hK => ?_
                go_simp
                exact hK _ _ rfl ⟨rfl, World.grownBy.refl _ none⟩
              -- op 11 (slot 83): binOp
              refine LateR.mono (Qv.eq (.int .i64 ((i : Int) + 1))) [(10, 82)] (by kernel_rfl) (by rfl) rfl (fun vs w' hC => ?_) ?_
              · rintro _ rfl
                refine askl_do rfl fun K hK => ?_
                go_simp
                exact hK _ _ rfl ⟨rfl, World.grownBy.refl _ none⟩
              -- op 12 (slot 84): convert
              refine LateR.mono (Qv.eq (.int .u64 ((i : Int) + 1))) [(11, 83)] (by kernel_rfl) (by rfl) rfl (fun vs w' hC => ?_) ?_
              · rintro _ rfl
                refine askl_do rfl fun K hK => ?_
                go_simp
                exact hK _ _ rfl ⟨rfl, World.grownBy.refl _ none⟩
              -- op 13 (slot 85): fieldAddr
              refine LateR.mono (Qv.eq (.pointer (some ⟨w.heap.size, 1, none⟩))) [] (by kernel_rfl) (by rfl) rfl (fun vs w' hC => ?_) ?_
              · refine askl_do rfl fun K hK => ?_
                go_simp
                exact hK _ _ rfl ⟨rfl, World.grownBy.refl _ none⟩
              -- op 14 (slot 86): load
              refine LateR.mono (Qv.eq (.int .u64 p.Q)) [(13, 85)] (by kernel_rfl) (by rfl) rfl (fun vs w' hC => ?_) ?_
              · rintro _ rfl
                refine askl_do rfl fun K hK => ?_
                obtain ⟨q0, q1, q2, q3⟩ := HLD.out vs w' hC
                go_simp
                exact hK _ _ rfl ⟨rfl, World.grownBy.refl _ none⟩
              -- op 15 (slot 87): call
              refine LateR.mono (Qv.eq (.int .u64 ea)) [(9, 81), (12, 84), (14, 86)] (by kernel_rfl) (by rfl) rfl (fun vs w' hC => ?_) ?_
              · rintro _ rfl
                rintro _ rfl
                rintro _ rfl
                refine askl_do rfl fun K hK => ?_
                go_simp
                refine (HE1.out vs w' hC).mono ?_
                rintro e w3 ⟨rfl, hg3⟩
                exact hK _ _ rfl ⟨rfl, hg3⟩
              -- op 16 (slot 88): move
              refine LateR.mono (Qv.eq (.slice (some ⟨gR, oR, none⟩) L cR)) [] (by kernel_rfl) (by rfl) rfl (fun vs w' hC => ?_) ?_
              · refine askl_do rfl fun K hK => ?_
                go_simp
                exact hK _ _ rfl ⟨rfl, World.grownBy.refl _ none⟩
              -- op 17 (slot 89): move
              refine LateR.mono (Qv.eq (.int .i64 (s : Int))) [] (by kernel_rfl) (by rfl) rfl (fun vs w' hC => ?_) ?_
              · refine askl_do rfl fun K hK => ?_
                go_simp
                exact hK _ _ rfl ⟨rfl, World.grownBy.refl _ none⟩
              -- op 18 (slot 90): indexAddr
              refine LateR.mono (Qv.eq (.pointer (some ⟨gR, oR + s, none⟩))) [(16, 88), (17, 89)] (by kernel_rfl) (by rfl) rfl (fun vs w' hC => ?_) ?_
              · rintro _ rfl
                rintro _ rfl
                refine askl_do rfl fun K hK => ?_
                go_simp
                exact hK _ _ rfl ⟨rfl, World.grownBy.refl _ none⟩
              -- op 19 (slot 91): load
              refine LateR.mono (Qv.eq (.slice Ar nr cr)) [(18, 90)] (by kernel_rfl) (by rfl) rfl (fun vs w' hC => ?_) ?_
              · rintro _ rfl
                refine askl_do rfl fun K hK => ?_
                obtain ⟨q0, q1, q2, q3⟩ := HLD.out vs w' hC
                go_simp
                exact hK _ _ rfl ⟨rfl, World.grownBy.refl _ none⟩
              -- op 20 (slot 92): move
              refine LateR.mono (Qv.eq (.int .i64 (i : Int))) [] (by kernel_rfl) (by rfl) rfl (fun vs w' hC => ?_) ?_
              · refine askl_do rfl fun K hK => ?_
                go_simp
                exact hK _ _ rfl ⟨rfl, World.grownBy.refl _ none⟩
              -- op 21 (slot 93): binOp
              refine LateR.mono (Qv.eq (.int .i64 ((i : Int) + 1))) [(20, 92)] (by kernel_rfl) (by rfl) rfl (fun vs w' hC => ?_) ?_
              · rintro _ rfl
                refine askl_do rfl fun K hK => ?_
                go_simp
                exact hK _ _ rfl ⟨rfl, World.grownBy.refl _ none⟩
              -- op 22 (slot 94): convert
              refine LateR.mono (Qv.eq (.int .u64 ((i : Int) + 1))) [(21, 93)] (by kernel_rfl) (by rfl) rfl (fun vs w' hC => ?_) ?_
              · rintro _ rfl
                refine askl_do rfl fun K hK => ?_
                go_simp
                exact hK _ _ rfl ⟨rfl, World.grownBy.refl _ none⟩
              -- op 23 (slot 95): fieldAddr
              refine LateR.mono (Qv.eq (.pointer (some ⟨w.heap.size, 1, none⟩))) [] (by kernel_rfl) (by rfl) rfl (fun vs w' hC => ?_) ?_
              · refine askl_do rfl fun K hK => ?_
                go_simp
                exact hK _ _ rfl ⟨rfl, World.grownBy.refl _ none⟩
              -- op 24 (slot 96): load
              refine LateR.mono (Qv.eq (.int .u64 p.Q)) [(23, 95)] (by kernel_rfl) (by rfl) rfl (fun vs w' hC => ?_) ?_
              · rintro _ rfl
                refine askl_do rfl fun K hK => ?_
                obtain ⟨q0, q1, q2, q3⟩ := HLD.out vs w' hC
                go_simp
                exact hK _ _ rfl ⟨rfl, World.grownBy.refl _ none⟩
              -- op 25 (slot 97): call
              refine LateR.mono (Qv.eq (.int .u64 eb)) [(19, 91), (22, 94), (24, 96)] (by kernel_rfl) (by rfl) rfl (fun vs w' hC => ?_) ?_
              · rintro _ rfl
                rintro _ rfl
                rintro _ rfl
                refine askl_do rfl fun K hK => ?_
                go_simp
                refine (HE2.out vs w' hC).mono ?_
                rintro e w3 ⟨rfl, hg3⟩
                exact hK _ _ rfl ⟨rfl, hg3⟩
              -- op 26 (slot 98): build
              refine LateR.mono (Qv.eq (.agg #[.int .u64 ea, .int .u64 eb])) [(15, 87), (25, 97)] (by kernel_rfl) (by rfl) rfl (fun vs w' hC => ?_) ?_
              · rintro _ rfl
                rintro _ rfl
                refine askl_do rfl fun K hK => ?_
                go_simp
                exact hK _ _ rfl ⟨rfl, World.grownBy.refl _ none⟩
              -- op 27 (slot 99): buildSlice
              refine LateR.mono (evP NN ea eb) [(26, 98)] (by kernel_rfl) (by rfl) rfl (fun vs w' hC => ?_) ?_
              · rintro _ rfl
                refine askl_do rfl fun K hK => ?_
                have hsz := HSZ.out vs w' hC
                go_simp
                exact hK _ _ rfl ⟨fun _ => ⟨_, rfl, hsz, Bk.new w' _ _⟩, World.grownBy_alloc w' _ none⟩
              -- op 28 (slot 100): call
              refine LateR.turn 0 [(5, 77), (27, 99)] (by kernel_rfl) rfl (fun vs w' hl hC => ?_) ?_
              · rintro _ rfl
                intro x99 h99
                have h99 : vs = [] → BlkP NN ea eb x99 w' := h99
                refine askl_do rfl fun K hK => ?_
                obtain rfl : vs = [] := List.eq_nil_of_length_eq_zero hl
                obtain ⟨g1, g2, g3⟩ := hC
                obtain ⟨b99, e99, hb99, hk99⟩ := h99 rfl
                subst e99
                refine pushAt_core (E := encP) (y := (ea, eb)) el_pair g3 ⟨rfl, HUA.out, HUB.out⟩ (Bk.two hk99) HLB.out (Nat.le_trans HNB.out g2) (fun g hg => Nat.le_trans (Nat.le_trans HNB.out g2) hg) (.tmp 77) (.tmp 99) rfl rfl rfl ?_
                intro v3 w3 ha hgr hm
                exact hK _ _ rfl ⟨trivial, g1.trans hgr, Nat.le_trans g2 hgr.size, ha⟩
              -- op 29 (slot 101): indexAddr
              refine LateR.mono (Qv.eq (.pointer (some ⟨Bs, i, none⟩))) [(0, 72), (1, 73)] (by kernel_rfl) (by rfl) rfl (fun vs w' hC => ?_) ?_
              · rintro _ rfl
                rintro _ rfl
                refine askl_do rfl fun K hK => ?_
                go_simp
                exact hK _ _ rfl ⟨rfl, World.grownBy.refl _ none⟩
              intro vs w5 hvl hC5
              obtain ⟨u, rfl⟩ : ∃ u, vs = [u] := List.length_eq_one_iff.1 hvl
              intro y0 k0 y1 k1 y2 k2 y3 k3 y4 k4 y5 k5 y6 k6 y7 k7 y8 k8 y9 k9 y10 k10 y11 k11 y12 k12 y13 k13 y14 k14 y15 k15 y16 k16 y17 k17 y18 k18 y19 k19 y20 k20 y21 k21 y22 k22 y23 k23 y24 k24 y25 k25 y26 k26 y27 k27 y28 k28 y29 k29
              show wpList Tryd.prog _ _ _ _ w5
              simp only [Act.put, List.setIfInBounds_toArray, List.set_cons_zero, List.set_cons_succ]
              have e28 : y28 = u := by have : some u = some y28 := k28; injection this with this; exact this.symm
              have e29 : y29 = .pointer (some ⟨Bs, i, none⟩) := k29
              subst e28 e29
              have HF5 := Lib.hid (HFR.out w5 y28 hC5)
              have hz5 := HFRZ.out w5 _ hC5
              have c5 : w5.cell? ⟨Bs, i, none⟩ = some (.slice Av nv cv) := by rw [hz5.cell i]; simp [HIH.out]
              have f5 := hz5.free
              have HA5 : Hid (Acc encP wj.heap.size 44 (fun b => wj.heap.size ≤ b) w5 y28 (evsI p F R i s ++ [(ea, eb)])) := Lib.hid hC5.2.2
              obtain ⟨Au, nu, cu, eu⟩ := HA5.out.sl.shape
              subst eu
              clear hC5 hz5 HA5 k0 k1 k2 k3 k4 k5 k6 k7 k8 k9 k10 k11 k12 k13 k14 k15 k16 k17 k18 k19 k20 k21 k22 k23 k24 k25 k26 k27 k28 k29 HLD HSZ HFR HFRZ HC0 HE1 HE2
              go_wp2_with fail
              go_roundg q
              case measure => omega
              case rel => exact ⟨s + 1, _, by omega, by go_num, HF5⟩
    | succ m =>
      have hin : (s : Int) < (L : Int) := by omega
      have hsl : s < l.length := by have := HLN.out; omega
      obtain ⟨gl, ol, cl, el, _, _, hcl, hul⟩ := (HLX.out _ HG3.out).atU hsl
      injection el with el1 el2 el3
      subst el1 el3
      obtain ⟨kb, hkb⟩ : ∃ y, y = k0 + s * (2 * T + 1) := ⟨_, rfl⟩
      have hkm : kb + (2 * T + 1) ≤ most := by
        have h1 : (s + 1) * (2 * T + 1) ≤ L * (2 * T + 1) := Nat.mul_le_mul_right _ (by omega)
        have h2 := HMO.out
        rw [Nat.add_mul, Nat.one_mul] at h1
        omega
      have HKN : Hid (k0 + (s + 1) * (2 * T + 1) = kb + T + 1 + T) := Lib.hid (by rw [hkb, Nat.add_mul, Nat.one_mul]; omega)
      have HFN : Hid (dealFs l p.Q dr T k0 (s + 1) = dealFs l p.Q dr T k0 s ++ [behI l[s] p.Q dr T kb]) := Lib.hid (by
        rw [hkb]
        refine (dsnoc _ _).trans ?_
        show _ ++ [behI (l[s]?.getD 0) p.Q dr T (k0 + s * (2 * T + 1))] = _
        rw [List.getElem?_eq_getElem hsl]
        rfl)
      have HRN : Hid (dealRs p.Q dr T k0 (s + 1) = dealRs p.Q dr T k0 s ++ [behI (dr (kb + T)) p.Q dr T (kb + T + 1)]) := Lib.hid (by
        rw [hkb]
        exact dsnoc _ _)
      rw [← hkb] at HI3
      have HB1 := Lib.hid (HBH.out l[s] kb wr hul (by omega) HI3.out)
      obtain ⟨y, hy⟩ : ∃ y, y = behI l[s] p.Q dr T kb := ⟨_, rfl⟩
      rw [← hy] at HFN HB1
      obtain ⟨z, hz⟩ : ∃ y, y = behI (dr (kb + T)) p.Q dr T (kb + T + 1) := ⟨_, rfl⟩
      rw [← hz] at HRN
      have HZ := Lib.hid hz
      have HLF : Hid (((dealFs l p.Q dr T k0 s).length + 1) * 24 ≤ 140737488355328) := Lib.hid (by simp [dealFs]; omega)
      have HLR : Hid (((dealRs p.Q dr T k0 s).length + 1) * 24 ≤ 140737488355328) := Lib.hid (by simp [dealRs]; omega)
      have HOWN : Hid ((∀ r, u10.ownBlock = some r → r < wr.heap.size) ∧ (∀ r, u11.ownBlock = some r → r < wr.heap.size)) := Lib.hid ⟨fun r e => (HS0.out.fst.lt r e).2, fun r e => (HS0.out.snd.lt r e).2⟩
      have HZR : Hid (w2.heap.size ≤ wr.heap.size) := Lib.hid HG3.out.size
      clear hkb hy hz el2
      generalize l[s] = x at *
      go_wp2_with fail
      refine HB1.out.mono ?_
      rintro e w3 ⟨v42, rfl, hs3, hi3, hg3⟩
      obtain ⟨A42, n42, c42, rfl⟩ := hs3.shape
      have HG4 : Hid (w2.grownBy w3 (some g)) := Lib.hid (HG3.out.trans hg3)
      have HI4 := Lib.hid hi3
      have HS4 := Lib.hid (HS0.out.keep hg3 (fun b hb e => by injection e with e; have := HW2.out; omega))
      have HREP : Hid ((encS encU).rep (fun b => (w2.heap.size ≤ b ∧ some b ≠ u11.ownBlock) ∧ some b ≠ u10.ownBlock) w3 [.slice A42 n42 c42] y) := Lib.hid ⟨_, rfl, hs3.more fun b _ hb => ⟨⟨Nat.le_trans HZR.out hb, fun e => by have := HOWN.out.2 b e.symm; omega⟩, fun e => by have := HOWN.out.1 b e.symm; omega⟩⟩
      have HZ4 : Hid (w2.heap.size ≤ w3.heap.size) := Lib.hid HG4.out.size
      clear hs3 hi3 hg3 hp3 hcl
      go_wp2_with (at_builtin; refine wpList_push rfl (.tmp 35) (.tmp 43) rfl (E := encS encU) (y := y) el_nums HS4.out.fst rfl rfl HREP.out HLF.out HZ4.out (HS4.out.new1 (fun _ h => Nat.le_trans HZ4.out h)) ?_)
      intro v10 w4 ha hg hm
      have HS5 := Lib.hid (HS4.out.one ha hg hm)
      have HG5 : Hid (w2.grownBy w4 (some g)) := Lib.hid (HG4.out.andThen hg (fun j e => .inl (HS4.out.fst.lt j e).1))
      have HI5 : Hid (TI (kb + T) w4) := Lib.hid (HT.out.keep HI4.out hg (fun b e hb => by have := (HS4.out.fst.lt b e).1; have := HOB.out b hb; have := HW2.out; omega))
      obtain ⟨A10, n10, c10, e10⟩ := HS5.out.fst.sl.shape
      subst e10
      obtain ⟨A11, n11, c11, e11⟩ := HS5.out.snd.sl.shape
      subst e11
      clear ha hg hm
      have hp5 : ∀ o, w4.drew.cell? ⟨w.heap.size, o, none⟩ = (#[.int .u64 p.P, .int .u64 p.Q, .int .u64 p.G, .int .u64 p.H, .int .i64 p.Nodes, .int .i64 p.N, .int .i64 p.T, .int .i64 p.K, .int .i64 p.D, .int .i64 p.R, .int .i64 p.M, .int .i64 p.X] : Array Value)[o]? := (HPX.out _ HG5.out).prule
      have HI6 : Hid (TI (kb + T) w4.drew) := Lib.hid (HT.out.keep HI5.out (grown_drewN' _ 1) (by simp))
      have HS6 := Lib.hid (HS5.out.kept (grown_drewN' _ 1))
      have HG6 : Hid (w2.grownBy w4.drew (some g)) := Lib.hid (HG5.out.trans ((grown_drewN' _ 1).but _))
      have HN6 := Lib.hid (HNX.out (kb + T) w4.drew (by omega) HI6.out)
      have HVU := Lib.hid (HT.out.val (kb + T))
      have hkm2 : kb + T + 1 + T ≤ most := by omega
      go_upto_region 9 with (fail)
      go_region_held3 (fun w' => ∀ o, w'.cell? ⟨w.heap.size, o, none⟩ = (#[.int .u64 p.P, .int .u64 p.Q, .int .u64 p.G, .int .u64 p.H, .int .i64 p.Nodes, .int .i64 p.N, .int .i64 p.T, .int .i64 p.K, .int .i64 p.D, .int .i64 p.R, .int .i64 p.M, .int .i64 p.X] : Array Value)[o]?) (first | assumption | (refine rule_alloc ?_ ?_ _ <;> assumption) | go_keep)
        (first
        | (go_at_call 36; (with_reducible refine HN6.out.mono ?_); rintro e w5 ⟨rfl, hi5, hg5⟩; have HI7 := Lib.hid hi5; have HG7 : Hid (w2.grownBy w5 (some g)) := Lib.hid (HG6.out.trans hg5); have HS7 := Lib.hid (HS6.out.keep hg5 (fun b hb e => by injection e with e; have := HW2.out; omega)); have hp7 := (HPX.out _ HG7.out).prule; have HB7 := Lib.hid (HBH.out (dr (kb + T)) (kb + T + 1) w5 HVU.out hkm2 HI7.out); have hz7 : w5.heap.size = w5.heap.size := rfl; clear hi5 hg5)
        | (go_at_call 37; (with_reducible refine HB7.out.mono ?_); rintro e w6 ⟨v55, rfl, hs6, hi6, hg6⟩; obtain ⟨A55, n55, c55, rfl⟩ := hs6.shape; have HI8 := Lib.hid hi6; have HG8 : Hid (w2.grownBy w6 (some g)) := Lib.hid (HG7.out.trans hg6); have HS8 := Lib.hid (HS7.out.keep hg6 (fun b hb e => by injection e with e; have := HW2.out; omega)); have hp8 := (HPX.out _ HG8.out).prule; have lp8 : w.heap.size < w6.heap.size := (HPX.out _ HG8.out).lt; have HZ8 : Hid (w2.heap.size ≤ w6.heap.size) := Lib.hid HG8.out.size; have HREP2 : Hid ((encS encU).rep (fun b => (w2.heap.size ≤ b ∧ some b ≠ (Value.slice A10 n10 c10).ownBlock) ∧ some b ≠ (Value.slice A11 n11 c11).ownBlock) w6 [.slice A55 n55 c55] z) := Lib.hid ⟨_, rfl, by rw [HZ.out]; exact hs6.more fun b _ hb => ⟨⟨Nat.le_trans HG7.out.size hb, fun e => by have := (HS7.out.fst.lt b e.symm).2; omega⟩, fun e => by have := (HS7.out.snd.lt b e.symm).2; omega⟩⟩; clear hs6 hi6 hg6)
        | (refine step_push rfl (.tmp 45) (.tmp 56) rfl (E := encS encU) (y := z) el_nums HS8.out.snd rfl rfl HREP2.out HLR.out HZ8.out (HS8.out.new2 (fun _ h => Nat.le_trans HZ8.out h)) ?_; intro v11 w7 ha hg hm; have HS9 := Lib.hid (HS8.out.two ha hg hm); have HG9 : Hid (w2.grownBy w7 (some g)) := Lib.hid (HG8.out.andThen hg (fun j e => .inl (HS8.out.snd.lt j e).1)); have HI9 : Hid (TI (kb + T + 1 + T) w7) := Lib.hid (HT.out.keep HI8.out hg (fun b e hb => by have := (HS8.out.snd.lt b e).1; have := HOB.out b hb; have := HW2.out; omega)); have hp9 := (HPX.out _ HG9.out).prule; clear ha hg hm))
      have HFIN : Hid (Side (encS encU) (encS encU) w2.heap.size 25 25 (fun b => w2.heap.size ≤ b) w7 (.slice A10 n10 c10) v11 (dealFs l p.Q dr T k0 (s + 1)) (dealRs p.Q dr T k0 (s + 1)) ∧ TI (k0 + (s + 1) * (2 * T + 1)) w7 ∧ w2.grownBy w7 (some g)) := Lib.hid ⟨by rw [HFN.out, HRN.out]; exact HS9.out, by rw [HKN.out]; exact HI9.out, HG9.out⟩
      go_wp2_with fail
      go_roundg m
      case measure => omega
      case rel => exact ⟨s + 1, by omega, by go_num, HFIN⟩
end Go.Proofs.YtonkbmknanpchaaDoor

namespace Go.Proofs.YtonkbmknanpchaaDoor
open Go Go.RowKit

/-- Numbers do not lie in a block in which no two of them stand side by side. -/
theorem sl_apartU {X : Nat → Prop} {W : World} {v : Value} {S : List Int} (h : Sl encU X W v S) (h2 : 2 ≤ S.length) {b : Nat} {t : TypeId} {cs : Array Value} (hb : Bk W b t cs) (hc : ∀ i a c, cs[i]? = some (.int .u64 a) → cs[i + 1]? = some (.int .u64 c) → False) : Sl encU (fun g => g ≠ b) W v S := by
  obtain ⟨A, c, e, h3, h4, h5⟩ := h
  refine ⟨A, c, e, h3, h4, fun hn => ?_⟩
  obtain ⟨g, o, eA, lt, _, hi⟩ := h5 hn
  refine ⟨g, o, eA, lt, fun eg => ?_, hi⟩
  subst eg
  obtain ⟨c0, ⟨r0, _⟩, k0⟩ := hi 0 (by omega)
  obtain ⟨c1, ⟨r1, _⟩, k1⟩ := hi 1 (by omega)
  have q0 := k0 0 (.int .u64 S[0]) (by rw [r0]; rfl)
  have q1 := k1 0 (.int .u64 S[1]) (by rw [r1]; rfl)
  rw [hb.cell] at q0 q1
  exact hc o _ _ (by simpa [encU] using q0) (by simpa [encU] using q1)
/-- No two numbers side by side. -/
def NoTwo (cs : Array Value) : Prop := ∀ i a c, cs[i]? = some (.int .u64 a) → cs[i + 1]? = some (.int .u64 c) → False
theorem tape_ints (A : Option Addr) (n c0 : Nat) (s d : Int) : NoTwo #[.int .u64 s, .slice A n c0, .int .i64 d]
  | 0, a, c, _, h => by simp at h
  | 1, a, c, h, _ => by simp at h
  | 2, a, c, h, _ => by simp at h
  | n + 3, a, c, h, _ => by simp at h
end Go.Proofs.YtonkbmknanpchaaDoor

namespace Go.Proofs.YtonkbmknanpchaaDoor
open Go.RowKit

set_option maxHeartbeats 400000 in
theorem next_ahead (b g o n c : Nat) (x : Int) (s d q : Int) (w : World) (hx : U64 x) (hq : U64 q) (hd0 : 0 ≤ d) (hd : d < 4611686018427387904)
    (hb : Bk w b 68 #[.int .u64 s, .slice (some ⟨g, o, none⟩) (n + 1) c, .int .i64 d]) (hc : w.cell? ⟨g, o, none⟩ = some (.int .u64 x)) (hgb : g ≠ b) (hn : n + 1 ≤ c) (h1c : 1 < c) (hcm : c ≤ 9223372036854775807) :
    Calls Tryd.prog 36 #[.pointer (some ⟨b, 0, none⟩), .int .u64 q] w fun e w' => e = .returned (.int .u64 (belowI x q)) ∧ Bk w' b 68 #[.int .u64 s, .slice (some ⟨g, o + 1, none⟩) n (c - 1), .int .i64 (d + 1)] ∧ w.grownBy w' (some b) := by
  have c1 : w.cell? ⟨b, 1, none⟩ = some (.slice (some ⟨g, o, none⟩) (n + 1) c) := hb.cell 1
  have c2 : w.cell? ⟨b, 2, none⟩ = some (.int .i64 d) := hb.cell 2
  have f1 : w.frozen? ⟨b, 1, none⟩ = false := hb.free 1
  have f2 : w.frozen? ⟨b, 2, none⟩ = false := hb.free 2
  have HB := Lib.hid hb
  have HL := Lib.hid (fun w => below_any x q w hx hq)
  have hne : ¬ (b = g) := fun h => hgb h.symm
  clear hb hx hq
  go_enter Tryd.func36, Tryd.ntmps36
  go_wp2_with fail
  refine (HL.out _).mono ?_
  rintro e w' ⟨rfl, n1, rfl⟩
  go_wp2
  go_ret
  refine ⟨rfl, ?_, ?_⟩
  · exact Bk.drewN (((HB.out.set 2 _).set 1 _).of_eq rfl) _
  · exact grownBy_drewN (grownBy_set (grownBy_set (World.grownBy.refl w _) 2 _) 1 _) _

set_option maxHeartbeats 400000 in
theorem next_last (b g o : Nat) (x : Int) (s d q : Int) (w : World) (hx : U64 x) (hq : U64 q) (hd0 : 0 ≤ d) (hd : d < 4611686018427387904)
    (hb : Bk w b 68 #[.int .u64 s, .slice (some ⟨g, o, none⟩) 1 1, .int .i64 d]) (hc : w.cell? ⟨g, o, none⟩ = some (.int .u64 x)) (hgb : g ≠ b) :
    Calls Tryd.prog 36 #[.pointer (some ⟨b, 0, none⟩), .int .u64 q] w fun e w' => e = .returned (.int .u64 (belowI x q)) ∧ Bk w' b 68 #[.int .u64 s, .slice (some ⟨g, o, none⟩) 0 0, .int .i64 (d + 1)] ∧ w.grownBy w' (some b) := by
  have c1 : w.cell? ⟨b, 1, none⟩ = some (.slice (some ⟨g, o, none⟩) 1 1) := hb.cell 1
  have c2 : w.cell? ⟨b, 2, none⟩ = some (.int .i64 d) := hb.cell 2
  have f1 : w.frozen? ⟨b, 1, none⟩ = false := hb.free 1
  have f2 : w.frozen? ⟨b, 2, none⟩ = false := hb.free 2
  have HB := Lib.hid hb
  have HL := Lib.hid (fun w => below_any x q w hx hq)
  have hne : ¬ (b = g) := fun h => hgb h.symm
  clear hb hx hq
  go_enter Tryd.func36, Tryd.ntmps36
  go_wp2_with fail
  refine (HL.out _).mono ?_
  rintro e w' ⟨rfl, n1, rfl⟩
  go_wp2
  go_ret
  refine ⟨rfl, ?_, ?_⟩
  · exact Bk.drewN (((HB.out.set 2 _).set 1 _).of_eq rfl) _
  · exact grownBy_drewN (grownBy_set (grownBy_set (World.grownBy.refl w _) 2 _) 1 _) _

set_option maxHeartbeats 400000 in
theorem new_any (s : Int) (w : World) :
    Calls Tryd.prog 8 #[.int .u64 s] w fun e w' => e = .returned (.pointer (some ⟨w.heap.size, 0, none⟩)) ∧ w' = w.alloc (.cells #[.int .u64 s, .slice none 0 0, .int .i64 0] 68) := by
  go_enter Tryd.func8, Tryd.ntmps8
  go_wp2_with fail
  go_ret
  exact ⟨rfl, rfl⟩

theorem eq_nil (w : World) (A : Option Addr) (n c : Nat) : (binOp .eql 25 (.slice A n c) (.slice none 0 0)).run Tryd.prog w = .ok (.bool A.isNone) w :=
  Lib.run_eql_slice_nil w _ 22 A n c 0 0 Tryd.underlying25
/-- What a copy of numbers leaves: a slice of its own that reads as they do. -/
def Cloned (w : World) (l : List Int) (e : Ending) (w' : World) : Prop := ∃ A c, e = .returned (.slice A l.length c) ∧ Rd w' A (nums l) ∧ l.length ≤ c ∧ c ≤ 9223372036854775807 ∧ (∀ g o, A = some ⟨g, o, none⟩ → w.heap.size ≤ g ∧ g < w'.heap.size) ∧ w.grownBy w' none
theorem cloned_of {w w0 w1 : World} {l : List Int} {v : Value} {n : Nat} {row : Option Nat} (hn : n = l.length) (hown : w1.ownsRow w.heap.size 22 1 v n (nums l)) (hg0 : w.grownBy w0 none) (hg : w0.grownBy w1 row) (hr : ∀ g, row = some g → w.heap.size ≤ g) : Cloned w l (.returned v) w1 := by
  subst hn
  have hG := grown_up hg0 hg hr
  rcases hown.2 with ⟨hv, h0⟩ | ⟨g, cap, cur, hv, hb, hh, hnc, hcm, _, _⟩
  · subst hv
    refine ⟨none, 0, by rw [h0], ?_, by omega, by omega, by simp, hG⟩
    have : l = [] := List.eq_nil_of_length_eq_zero h0
    subst this
    exact Rd.nil _ _
  · subst hv
    exact ⟨_, cap, rfl, Rd.own hown, hnc, hcm, fun g' o e => by injection e with e; injection e with e1 e2 e3; subst e1; exact ⟨hb, Bk.lt hh⟩, hG⟩

set_option maxHeartbeats 400000 in
theorem clone_some (x : Addr) (c : Nat) (l : List Int) (w : World) (hr : Rd w (some x) (nums l)) (hn : l.length * 8 ≤ 140737488351232) :
    Calls Tryd.prog 48 #[.slice (some x) l.length c] w (Cloned w l) := by
  obtain ⟨i0, hi, hz0, hz1, hz2⟩ := info_parts u64_info
  have heq := fun w => eq_nil w (some x) l.length c
  have hown := World.ownsRow_made (base := w.heap.size) (e := 22) (size := 1) w #[] 0 (Nat.le_refl _) (Nat.zero_le _) rfl
  have hr1 : Rd (w.alloc (.cells #[] 22)) (some x) (nums l) := hr.grown (World.grownBy_alloc w _ none) (by simp)
  have hc := hr1.addr
  go_enter Tryd.func48, Tryd.ntmps48
  go_wp2_with (at_builtin; refine wpList_append_own _ rfl (.tmp 5) (.tmp 6) 25 rfl w.heap.size 22 i0 (.int .u64 0) 1 8 Tryd.underlying25 hi hz0 hz1 hz2 rfl (by decide) _ _ _ rfl hown x l.length c (nums l) rfl (by simp [nums]) hc (nums_one l) (by unfold maxLen; omega) (by omega) (by simp) ?_)
  intro v' w1 hown1 hgrow _
  have HO := Lib.hid hown1
  have HG := Lib.hid hgrow
  clear hown1 hgrow hc hr1 hown
  go_wp2
  go_ret
  exact cloned_of (by simp) HO.out (World.grownBy_alloc w _ none) HG.out (by simp [Value.ownBlock])

theorem clone_none (c : Nat) (w : World) :
    Calls Tryd.prog 48 #[.slice none 0 c] w fun e w' => e = .returned (.slice none 0 0) ∧ w' = w := by
  have heq := fun w => eq_nil w none 0 c
  go_enter Tryd.func48, Tryd.ntmps48
  go_wp2
  go_ret
  exact ⟨rfl, rfl⟩

/-- The slice value v reads as the numbers l. -/
def SlIs (w : World) (v : Value) (l : List Int) : Prop := ∃ A c, v = .slice A l.length c ∧ Rd w A (nums l) ∧ l.length ≤ c ∧ c ≤ 9223372036854775807
theorem SlIs.kept {w w' : World} {v : Value} {l : List Int} (h : SlIs w v l) (hg : w.grownBy w' none) : SlIs w' v l := by
  obtain ⟨A, c, e, hr, h1, h2⟩ := h
  exact ⟨A, c, e, hr.grown hg (by simp), h1, h2⟩
theorem clone_any (v : Value) (l : List Int) (w : World) (h : SlIs w v l) (hn : l.length * 8 ≤ 140737488351232) :
    Calls Tryd.prog 48 #[v] w (Cloned w l) := by
  obtain ⟨A, c, rfl, hr, _, _⟩ := h
  cases A with
  | none =>
    have hl : l = [] := by
      cases l with
      | nil => rfl
      | cons x l => obtain ⟨g, o, e, _⟩ := hr (by simp [nums]); cases e
    subst hl
    refine (clone_none c w).mono ?_
    rintro e w' ⟨rfl, rfl⟩
    exact ⟨none, 0, rfl, Rd.nil _ _, Nat.le_refl _, by omega, by simp, World.grownBy.refl _ _⟩
  | some x => exact clone_some x c l w hr hn
end Go.Proofs.YtonkbmknanpchaaDoor

namespace Go.Proofs.YtonkbmknanpchaaDoor
open Go.RowKit

theorem TapeIs.grown {w w' : World} {b ga : Nat} {T : TS} {row : Option Nat} (h : TapeIs w b ga T) (hg : w.grownBy w' row) (hb : some b ≠ row) (ha : some ga ≠ row) : TapeIs w' b ga T := by
  obtain ⟨A, c, hk, h1, h2, h3⟩ := h
  refine ⟨A, c, hk.grown hg hb, h1, h2, fun hn => ?_⟩
  obtain ⟨h4, h5, o, h6, h7⟩ := h3 hn
  exact ⟨h4, Nat.lt_of_lt_of_le h5 hg.size, o, h6, fun j u hu => (World.cell?_of_block (w := w) (hg.block ga h5 ha)).trans (h7 j u hu)⟩
/-- Behind a call that leaves all old memory alone. -/
theorem TapeIs.kept {w w' : World} {b ga : Nat} {T : TS} (h : TapeIs w b ga T) (hg : w.grownBy w' none) : TapeIs w' b ga T :=
  h.grown hg (by simp) (by simp)
theorem TapeIs.lt {w : World} {b ga : Nat} {T : TS} (h : TapeIs w b ga T) : b < w.heap.size := by
  obtain ⟨A, c, hk, _⟩ := h
  exact hk.lt

def TapeMade (w : World) (T : TS) (e : Ending) (w' : World) : Prop := ∃ b ga, e = .returned (.pointer (some ⟨b, 0, none⟩)) ∧ TapeIs w' b ga T ∧ w.heap.size ≤ b ∧ w.heap.size ≤ ga ∧ ga < w'.heap.size ∧ w.grownBy w' none

theorem new_made (s : Int) (w : World) : Calls Tryd.prog 8 #[.int .u64 s] w (TapeMade w ⟨[], s, 0⟩) := by
  refine (new_any s w).mono ?_
  rintro e w' ⟨rfl, rfl⟩
  have hb : Bk (w.alloc (.cells #[.int .u64 s, .slice none 0 0, .int .i64 0] 68)) w.heap.size 68 #[.int .u64 s, .slice none 0 0, .int .i64 0] := Bk.new w _ _
  exact ⟨w.heap.size, w.heap.size, rfl, ⟨none, 0, hb, Nat.le_refl _, by omega, fun h => absurd rfl h⟩, Nat.le_refl _, Nat.le_refl _, by simp, World.grownBy_alloc w _ none⟩

set_option maxHeartbeats 400000 in
theorem of_made (v : Value) (l : List Int) (s : Int) (w : World) (h : SlIs w v l) (hn : l.length * 8 ≤ 140737488351232) :
    Calls Tryd.prog 14 #[v, .int .u64 s] w (TapeMade w ⟨l, s, 0⟩) := by
  have HC := Lib.hid (clone_any v l w h hn)
  clear h
  go_enter Tryd.func14, Tryd.ntmps14
  go_wp2_with fail
  refine HC.out.mono ?_
  rintro e w1 ⟨A, c, rfl, hr, h1, h2, h3, hg⟩
  have HX := Lib.hid (And.intro hr (And.intro h1 (And.intro h2 (And.intro h3 hg))))
  clear hr h1 h2 h3 hg
  go_wp2
  go_ret
  obtain ⟨hr, h1, h2, h3, hg⟩ := HX.out
  have hb : Bk (w1.alloc (.cells #[.int .u64 s, .slice A l.length c, .int .i64 0] 68)) w1.heap.size 68 #[.int .u64 s, .slice A l.length c, .int .i64 0] := Bk.new w1 _ _
  by_cases h0 : l = []
  · subst h0
    exact ⟨w1.heap.size, w1.heap.size, rfl, ⟨A, c, hb, h1, h2, fun h => absurd rfl h⟩, hg.size, hg.size, by simp, grown_up hg (World.grownBy_alloc w1 _ none) (by simp)⟩
  · have hr2 : Rd (w1.alloc (.cells #[.int .u64 s, .slice A l.length c, .int .i64 0] 68)) A (nums l) := hr.grown (World.grownBy_alloc w1 _ none) (by simp)
    obtain ⟨g, o, e, _, hcell⟩ := hr2 (by simpa [nums] using h0)
    have hlt := h3 g o e
    exact ⟨w1.heap.size, g, rfl, ⟨A, c, hb, h1, h2, fun _ => ⟨by omega, by simp; omega, o, e, hcell⟩⟩, hg.size, hlt.1, by simp; omega, grown_up hg (World.grownBy_alloc w1 _ none) (by simp)⟩

/-- What a draw leaves. -/
def Drawn (w : World) (b ga : Nat) (q : Int) (T : TS) (e : Ending) (w' : World) : Prop := e = .returned (.int .u64 (T.val q)) ∧ TapeIs w' b ga (T.next q) ∧ w.grownBy w' (some b)
theorem next_any (b ga : Nat) (q : Int) (T : TS) (w : World) (h : TapeIs w b ga T) (hT : T.ok) (hq : U64 q) :
    Calls Tryd.prog 36 #[.pointer (some ⟨b, 0, none⟩), .int .u64 q] w (Drawn w b ga q T) := by
  obtain ⟨hx, hs, hd0, hd1⟩ := hT
  obtain ⟨A, c, hk, h1, h2, h3⟩ := h
  obtain ⟨l, s, d⟩ := T
  cases l with
  | nil =>
    refine (next_own b A c s d q w hs hq hd0 hd1 hk).mono ?_
    rintro e w' ⟨rfl, hk', hg⟩
    exact ⟨rfl, ⟨A, c, hk', h1, h2, fun h => absurd rfl h⟩, hg⟩
  | cons x l =>
    obtain ⟨hne, hlt, o, rfl, hc⟩ := h3 (by simp)
    have hc0 : w.cell? ⟨ga, o, none⟩ = some (.int .u64 x) := hc 0 _ rfl
    simp only [List.length_cons] at hk h1
    by_cases hlast : 1 < c
    · refine (next_ahead b ga o l.length c x s d q w (hx x (by simp)) hq hd0 hd1 hk hc0 hne (by simpa using h1) hlast h2).mono ?_
      rintro e w' ⟨rfl, hk', hg⟩
      refine ⟨rfl, ⟨_, c - 1, hk', by simp only [TS.next]; omega, by omega, fun _ => ⟨hne, Nat.lt_of_lt_of_le hlt hg.size, o + 1, rfl, fun j u hu => ?_⟩⟩, hg⟩
      rw [World.cell?_of_block (w := w) (hg.block ga hlt (by simpa using hne)), show o + 1 + j = o + (j + 1) by omega]
      exact hc (j + 1) u (by simpa [nums, TS.next] using hu)
    · have hl : l = [] := List.eq_nil_of_length_eq_zero (by omega)
      subst hl
      have hc1 : c = 1 := by simp at h1; omega
      subst hc1
      refine (next_last b ga o x s d q w (hx x (by simp)) hq hd0 hd1 hk hc0 hne).mono ?_
      rintro e w' ⟨rfl, hk', hg⟩
      exact ⟨rfl, ⟨_, 0, hk', Nat.le_refl _, by omega, fun h => absurd rfl h⟩, hg⟩
end Go.Proofs.YtonkbmknanpchaaDoor

namespace Go.Proofs.YtonkbmknanpchaaDoor
open Go Go.RowKit

/-- A tape behind k draws below q. -/
def tsk (q : Int) (T : TS) : Nat → TS
  | 0 => T
  | k + 1 => (tsk q T k).next q
theorem tsnext_d (q : Int) (T : TS) : (T.next q).d = T.d + 1 := by
  obtain ⟨l, s, d⟩ := T
  cases l <;> rfl
theorem tsnext_ok {q : Int} {T : TS} (h : T.ok) (hd : T.d + 1 < 4611686018427387904) : (T.next q).ok := by
  obtain ⟨hx, hs, hd0, hd1⟩ := h
  obtain ⟨l, s, d⟩ := T
  cases l with
  | nil => exact ⟨by simp [TS.next], drawS_U64 q s hs, by simp [TS.next] at *; omega, by simpa [TS.next] using hd⟩
  | cons x l => exact ⟨fun y hy => hx y (by simp [TS.next] at hy; simp [hy]), hs, by simp [TS.next] at *; omega, by simpa [TS.next] using hd⟩
theorem tsk_ok {q : Int} {T : TS} (h : T.ok) : ∀ k : Nat, T.d + k < 4611686018427387904 → (tsk q T k).ok ∧ (tsk q T k).d = T.d + k
  | 0, _ => ⟨h, by simp [tsk]⟩
  | k + 1, hd => by
    obtain ⟨h1, h2⟩ := tsk_ok h k (by omega)
    refine ⟨tsnext_ok h1 (by omega), ?_⟩
    show ((tsk q T k).next q).d = _
    rw [tsnext_d, h2]
    omega
theorem tsk_ahead {q : Int} {T : TS} (h : ∀ x ∈ T.ahead, U64 x) : ∀ k : Nat, ∀ x ∈ (tsk q T k).ahead, U64 x
  | 0, x, hx => h x hx
  | k + 1, x, hx => by
    have ih := tsk_ahead (q := q) h k
    have hx : x ∈ ((tsk q T k).next q).ahead := hx
    generalize tsk q T k = T1 at ih hx
    obtain ⟨l, s, d⟩ := T1
    cases l with
    | nil => simp [TS.next] at hx
    | cons y l => exact ih x (by simp [TS.next] at hx; simp [hx])
theorem tp_ahead (b ga : Nat) (q : Int) (T : TS) (hT : T.ok) (hd : T.d ≤ 1000) (hq : U64 q) : Tp b q (fun k => (tsk q T k).val q) (fun k w => TapeIs w b ga (tsk q T k) ∧ ga < w.heap.size) (fun x => x = b ∨ x = ga) 1000000 where
  own := .inl rfl
  old := fun h e => by
    rcases e with e | e
    · subst e; exact h.1.lt
    · subst e; exact h.2
  val := fun k => by
    have ih := tsk_ahead (q := q) hT.1 k
    generalize tsk q T k = T1 at ih
    obtain ⟨l, s, d⟩ := T1
    cases l with
    | nil => exact drawX_U64 q s hq
    | cons x l => exact belowI_U64 _ _ (ih x (by simp)) hq
  keep := fun h hg hr => ⟨h.1.grown hg (fun e => hr b e.symm (.inl rfl)) (fun e => hr ga e.symm (.inr rfl)), Nat.lt_of_lt_of_le h.2 hg.size⟩
  next := fun {k w} hk h => (next_any b ga q (tsk q T k) w h.1 (tsk_ok hT k (by omega)).1 hq).mono fun _ _ ⟨h1, h2, h3⟩ => ⟨h1, ⟨h2, Nat.lt_of_lt_of_le h.2 h3.size⟩, h3⟩
end Go.Proofs.YtonkbmknanpchaaDoor

namespace Go.Proofs.YtonkbmknanpchaaDoor
open Go.RowKit


set_option maxHeartbeats 400000 in
theorem cutU_any (v : Value) (l : List Int) (n k : Nat) (X Y : Nat → Prop) (w : World) (h : Sl encU X w v l) (hn : 1 ≤ n) (hl : l.length = k * n) (hb : l.length ≤ 100000) (hY : ∀ g, w.heap.size ≤ g → Y g) (hXY : ∀ cs y w', Enc.rep encU (fun g => X g ∧ g < w.heap.size) w' cs y → Enc.rep encU (fun g => Y g ∧ g < w.heap.size) w' cs y) :
    Calls Tryd.prog 54 #[v, .int .i64 n] w (Gives (encW encU) Y w (chk n l k)) := by
  have hk : k ≤ 100000 := by
    have : k * 1 ≤ k * n := Nat.mul_le_mul_left k hn
    omega
  have hn2 : k ≠ 0 → n ≤ 100000 := fun h0 => by
    have : 1 * n ≤ k * n := Nat.mul_le_mul_right n (by omega)
    omega
  have HL := Lib.hid hl
  have HN2 := Lib.hid hn2
  have HY := Lib.hid hY
  have HXY := Lib.hid hXY
  have HST : Hid (Sl encU X w v (l.drop (0 * n)) ∧ Acc (encW encU) w.heap.size 25 Y w (.slice none 0 0) (chk n l 0) ∧ w.grownBy w none) := Lib.hid ⟨by simpa using h, Acc.nil _ _ _ _ _, World.grownBy.refl w none⟩
  clear h hl hn2 hY hXY hb
  go_enter Tryd.func54, Tryd.ntmps54
  go_wp2_with fail
  go_loopg [0, 5] k (fun g s0 s5 wx => ∃ j : Nat, j + g = k ∧ Hid (Sl encU X w s0 (l.drop (j * n)) ∧ Acc (encW encU) w.heap.size 25 Y wx s5 (chk n l j) ∧ w.grownBy wx none))
  case atStart => exact ⟨0, by omega, HST⟩
  case round =>
    obtain ⟨j, hj, HX⟩ := hrel
    cases gk with
    | zero =>
      obtain rfl : j = k := by omega
      obtain ⟨hs, hacc, hg⟩ := HX.out
      obtain ⟨A, c, rfl, _, _⟩ := hs.form
      have h0 : (l.drop (j * n)).length = 0 := by rw [List.length_drop, HL.out]; omega
      rw [h0]
      have HR : Hid (Sl (encW encU) Y wr u5 (chk n l j)) := Lib.hid hacc.sl
      have HG := Lib.hid hg
      clear hs hacc hg HX h0 HST
      go_wp2
      go_ret
      exact ⟨_, rfl, HR.out, HG.out⟩
    | succ m =>
      obtain ⟨hs, hacc, hg⟩ := HX.out
      have hmul : (j + 1 + m) * n = j * n + n + m * n := by rw [Nat.add_mul, Nat.add_mul, Nat.one_mul]
      have hlen : l.length = j * n + n + m * n := by rw [HL.out, ← hj, ← hmul]; congr 1; omega
      have hd : (l.drop (j * n)).length = n + m * n := by rw [List.length_drop]; omega
      obtain ⟨A, c, e0, hc1, hc2⟩ := hs.form
      subst e0
      obtain ⟨ga, oa, eA, hga, _⟩ := hs.addr (by omega)
      subst eA
      have HTK : Hid (Sl encU X w (.slice (some ⟨ga, oa, none⟩) n c) ((l.drop (j * n)).take n)) := Lib.hid (hs.take n (by omega))
      have HDR : Hid (Sl encU X w (.slice (some ⟨ga, oa + n, none⟩) (n + m * n - n) (c - n)) (l.drop ((j + 1) * n))) := Lib.hid (by
        rw [hd] at hs
        have := hs.drop n (by omega)
        rwa [List.drop_drop, show j * n + n = (j + 1) * n by rw [Nat.add_mul, Nat.one_mul], show n * Enc.size encU = n from Nat.mul_one n] at this)
      have HD0 : Hid (m = 0 → l.drop ((j + 1) * n) = []) := Lib.hid (fun hm => List.drop_eq_nil_of_le (by rw [hlen, hm, Nat.add_mul]; omega))
      have HTL : Hid (((l.drop (j * n)).take n).length = n) := Lib.hid (by rw [List.length_take, hd]; omega)
      rw [hd] at hc1 ⊢
      have hn3 : n ≤ 100000 := HN2.out (by omega)
      have HAC := Lib.hid hacc
      have HG := Lib.hid hg
      have HSN := Lib.hid (chk_succ n l j)
      have HCL := Lib.hid (chk_length n l j)
      obtain ⟨q, hq⟩ : ∃ q, q = n + m * n := ⟨_, rfl⟩
      rw [← hq] at hc1 ⊢
      have hqn : n ≤ q := by omega
      clear hs hacc hg HX hd hlen hmul HST
      have HQ := Lib.hid hq
      have i1 : (0 : Int) < (q : Int) := by omega
      have i2 : (n : Int) ≤ (q : Int) := by omega
      have i3 : (n : Int) ≤ (c : Int) := by omega
      have i4 : (0 : Int) ≤ (n : Int) := by omega
      clear hq
      have HOW : Hid (∀ g, u5.ownBlock = some g → w.heap.size ≤ g ∧ g < wr.heap.size) := Lib.hid HAC.out.lt
      have HZ : Hid (∀ cs y, Enc.rep encU (fun g => X g ∧ g < w.heap.size) (wr.alloc (.cells #[] 22)) cs y → Enc.rep encU (fun g => (Y g ∧ some g ≠ u5.ownBlock) ∧ some g ≠ (Value.slice (some ⟨wr.heap.size, 0, none⟩) 0 0).ownBlock) (wr.alloc (.cells #[] 22)) cs y) :=
        Lib.hid (fun cs y hr => Enc.more _ (HXY.out _ _ _ hr) fun g _ hg => ⟨⟨hg.1, fun e => by have := HOW.out g e.symm; have := hg.2; omega⟩, fun e => by simp [Value.ownBlock] at e; have := hg.2; have := HG.out.size; omega⟩)
      have HSB : Hid (Sl encU (fun g => X g ∧ g < w.heap.size) (wr.alloc (.cells #[] 22)) (.slice (some ⟨ga, oa, none⟩) n c) ((l.drop (j * n)).take n)) := Lib.hid (HTK.out.bounded.kept (HG.out.trans (World.grownBy_alloc wr _ none)))
      have HBY : Hid ((([] : List Int).length + ((l.drop (j * n)).take n).length) * 8 ≤ 140737488355328) := Lib.hid (by rw [HTL.out]; simp; omega)
      have HNX : Hid (∀ g, (wr.alloc (.cells #[] 22)).heap.size ≤ g → Y g ∧ some g ≠ u5.ownBlock) := Lib.hid (fun g hg => ⟨HY.out g (by have := HG.out.size; simp at hg; omega), fun e => by have := HOW.out g e.symm; simp at hg; omega⟩)
      go_wp2_with (at_builtin; refine wpList_apps rfl (.tmp 13) (.tmp 16) rfl (E := encU) el_u64 (Acc.made _ wr 22 (Nat.le_refl _) (fun g => Y g ∧ some g ≠ u5.ownBlock) ⟨HY.out _ HG.out.size, fun e => by have := HOW.out _ e.symm; omega⟩) rfl rfl HSB.out HZ.out HBY.out (by simp) HNX.out ?_)
      intro v1 w1 hacc1 hg1 hm1
      obtain ⟨A1, c1, e1, _, _⟩ := hacc1.sl.form
      rw [HTL.out] at e1
      subst e1
      have HA1 := Lib.hid hacc1
      have HG1 : Hid (wr.grownBy w1 none) := Lib.hid (grown_up (World.grownBy_alloc wr _ none) hg1 (fun g e => by simp [Value.ownBlock] at e; omega))
      have HREP : Hid (Enc.rep (encW encU) (fun g => Y g ∧ some g ≠ u5.ownBlock) w1 [.slice A1 n c1] ((l.drop (j * n)).take n)) := Lib.hid (by
        have hn0 : 0 < ((l.drop (j * n)).take n).length := by rw [HTL.out]; omega
        exact ⟨_, rfl, hacc1.sl, hacc1.wr hn0⟩)
      clear hacc1 hg1 hm1
      have HLB : Hid (((chk n l j).length + 1) * 24 ≤ 140737488355328) := Lib.hid (by rw [HCL.out]; omega)
      have HAC1 := Lib.hid (HAC.out.kept HG1.out)
      have HG2 := Lib.hid (HG.out.trans HG1.out)
      have HBS : Hid (w.heap.size ≤ w1.heap.size) := Lib.hid HG2.out.size
      have HNY : Hid (∀ g, w1.heap.size ≤ g → Y g) := Lib.hid (fun g hg => HY.out g (Nat.le_trans HBS.out hg))
      go_wp2_with (at_builtin; refine wpList_push rfl (.tmp 12) (.tmp 18) rfl (E := encW encU) el_nums HAC1.out rfl rfl HREP.out HLB.out HBS.out HNY.out ?_)
      intro v2 w2 hacc2 hg2 hm2
      have HG3 : Hid (w.grownBy w2 none) := Lib.hid (grown_up HG2.out hg2 (fun g e => (HAC1.out.lt g e).1))
      have HG4 : Hid (wr.grownBy w2 u5.ownBlock) := Lib.hid ((grown_weak HG1.out).trans hg2)
      have HA2 : Hid (Acc (encW encU) w.heap.size 25 Y w2 v2 (chk n l (j + 1))) := Lib.hid (by rw [HSN.out]; exact hacc2)
      clear hacc2 hg2 hm2
      have HE : Hid (c = n → l.drop ((j + 1) * n) = []) := Lib.hid (fun hcn => HD0.out (by
        rcases Nat.eq_zero_or_pos m with h | h
        · exact h
        · have := Nat.mul_le_mul h (Nat.le_refl n)
          have := HQ.out
          omega))
      have HDR2 : Hid (Sl encU X w (.slice (some ⟨ga, oa + n, none⟩) (q - n) (c - n)) (l.drop ((j + 1) * n))) := Lib.hid (by rw [HQ.out]; exact HDR.out)
      clear HDR
      go_wp2_with fail
      all_goals
        go_roundg m
        case measure => omega
        case rel => first | exact ⟨j + 1, by omega, Lib.hid ⟨HDR2.out, HA2.out, HG3.out⟩⟩ | exact ⟨j + 1, by omega, Lib.hid ⟨by rw [HE.out (by assumption), show q - n = 0 by omega]; exact Sl.empty _ _ _ _ _ (by omega), HA2.out, HG3.out⟩⟩

set_option maxHeartbeats 400000 in
theorem cutR_any (v : Value) (l : List (List Int)) (n k : Nat) (X Y : Nat → Prop) (w : World) (h : Sl (encW encU) X w v l) (hn : 1 ≤ n) (hl : l.length = k * n) (hb : l.length ≤ 100000) (hY : ∀ g, w.heap.size ≤ g → Y g) (hXY : ∀ cs y w', Enc.rep (encW encU) (fun g => X g ∧ g < w.heap.size) w' cs y → Enc.rep (encW encU) (fun g => Y g ∧ g < w.heap.size) w' cs y) :
    Calls Tryd.prog 53 #[v, .int .i64 n] w (Gives (encW (encW encU)) Y w (chk n l k)) := by
  have hk : k ≤ 100000 := by
    have : k * 1 ≤ k * n := Nat.mul_le_mul_left k hn
    omega
  have hn2 : k ≠ 0 → n ≤ 100000 := fun h0 => by
    have : 1 * n ≤ k * n := Nat.mul_le_mul_right n (by omega)
    omega
  have HL := Lib.hid hl
  have HN2 := Lib.hid hn2
  have HY := Lib.hid hY
  have HXY := Lib.hid hXY
  have HST : Hid (Sl (encW encU) X w v (l.drop (0 * n)) ∧ Acc (encW (encW encU)) w.heap.size 30 Y w (.slice none 0 0) (chk n l 0) ∧ w.grownBy w none) := Lib.hid ⟨by simpa using h, Acc.nil _ _ _ _ _, World.grownBy.refl w none⟩
  clear h hl hn2 hY hXY hb
  go_enter Tryd.func53, Tryd.ntmps53
  go_wp2_with fail
  go_loopg [0, 5] k (fun g s0 s5 wx => ∃ j : Nat, j + g = k ∧ Hid (Sl (encW encU) X w s0 (l.drop (j * n)) ∧ Acc (encW (encW encU)) w.heap.size 30 Y wx s5 (chk n l j) ∧ w.grownBy wx none))
  case atStart => exact ⟨0, by omega, HST⟩
  case round =>
    obtain ⟨j, hj, HX⟩ := hrel
    cases gk with
    | zero =>
      obtain rfl : j = k := by omega
      obtain ⟨hs, hacc, hg⟩ := HX.out
      obtain ⟨A, c, rfl, _, _⟩ := hs.form
      have h0 : (l.drop (j * n)).length = 0 := by rw [List.length_drop, HL.out]; omega
      rw [h0]
      have HR : Hid (Sl (encW (encW encU)) Y wr u5 (chk n l j)) := Lib.hid hacc.sl
      have HG := Lib.hid hg
      clear hs hacc hg HX h0 HST
      go_wp2
      go_ret
      exact ⟨_, rfl, HR.out, HG.out⟩
    | succ m =>
      obtain ⟨hs, hacc, hg⟩ := HX.out
      have hmul : (j + 1 + m) * n = j * n + n + m * n := by rw [Nat.add_mul, Nat.add_mul, Nat.one_mul]
      have hlen : l.length = j * n + n + m * n := by rw [HL.out, ← hj, ← hmul]; congr 1; omega
      have hd : (l.drop (j * n)).length = n + m * n := by rw [List.length_drop]; omega
      obtain ⟨A, c, e0, hc1, hc2⟩ := hs.form
      subst e0
      obtain ⟨ga, oa, eA, hga, _⟩ := hs.addr (by omega)
      subst eA
      have HTK : Hid (Sl (encW encU) X w (.slice (some ⟨ga, oa, none⟩) n c) ((l.drop (j * n)).take n)) := Lib.hid (hs.take n (by omega))
      have HDR : Hid (Sl (encW encU) X w (.slice (some ⟨ga, oa + n, none⟩) (n + m * n - n) (c - n)) (l.drop ((j + 1) * n))) := Lib.hid (by
        rw [hd] at hs
        have := hs.drop n (by omega)
        rwa [List.drop_drop, show j * n + n = (j + 1) * n by rw [Nat.add_mul, Nat.one_mul], show n * Enc.size (encW encU) = n from Nat.mul_one n] at this)
      have HD0 : Hid (m = 0 → l.drop ((j + 1) * n) = []) := Lib.hid (fun hm => List.drop_eq_nil_of_le (by rw [hlen, hm, Nat.add_mul]; omega))
      have HTL : Hid (((l.drop (j * n)).take n).length = n) := Lib.hid (by rw [List.length_take, hd]; omega)
      rw [hd] at hc1 ⊢
      have hn3 : n ≤ 100000 := HN2.out (by omega)
      have HAC := Lib.hid hacc
      have HG := Lib.hid hg
      have HSN := Lib.hid (chk_succ n l j)
      have HCL := Lib.hid (chk_length n l j)
      obtain ⟨q, hq⟩ : ∃ q, q = n + m * n := ⟨_, rfl⟩
      rw [← hq] at hc1 ⊢
      have hqn : n ≤ q := by omega
      clear hs hacc hg HX hd hlen hmul HST
      have HQ := Lib.hid hq
      have i1 : (0 : Int) < (q : Int) := by omega
      have i2 : (n : Int) ≤ (q : Int) := by omega
      have i3 : (n : Int) ≤ (c : Int) := by omega
      have i4 : (0 : Int) ≤ (n : Int) := by omega
      clear hq
      have HOW : Hid (∀ g, u5.ownBlock = some g → w.heap.size ≤ g ∧ g < wr.heap.size) := Lib.hid HAC.out.lt
      have HZ : Hid (∀ cs y, Enc.rep (encW encU) (fun g => X g ∧ g < w.heap.size) (wr.alloc (.cells #[] 25)) cs y → Enc.rep (encW encU) (fun g => (Y g ∧ some g ≠ u5.ownBlock) ∧ some g ≠ (Value.slice (some ⟨wr.heap.size, 0, none⟩) 0 0).ownBlock) (wr.alloc (.cells #[] 25)) cs y) :=
        Lib.hid (fun cs y hr => Enc.more _ (HXY.out _ _ _ hr) fun g _ hg => ⟨⟨hg.1, fun e => by have := HOW.out g e.symm; have := hg.2; omega⟩, fun e => by simp [Value.ownBlock] at e; have := hg.2; have := HG.out.size; omega⟩)
      have HSB : Hid (Sl (encW encU) (fun g => X g ∧ g < w.heap.size) (wr.alloc (.cells #[] 25)) (.slice (some ⟨ga, oa, none⟩) n c) ((l.drop (j * n)).take n)) := Lib.hid (HTK.out.bounded.kept (HG.out.trans (World.grownBy_alloc wr _ none)))
      have HBY : Hid ((([] : List (List Int)).length + ((l.drop (j * n)).take n).length) * 24 ≤ 140737488355328) := Lib.hid (by rw [HTL.out]; simp; omega)
      have HNX : Hid (∀ g, (wr.alloc (.cells #[] 25)).heap.size ≤ g → Y g ∧ some g ≠ u5.ownBlock) := Lib.hid (fun g hg => ⟨HY.out g (by have := HG.out.size; simp at hg; omega), fun e => by have := HOW.out g e.symm; simp at hg; omega⟩)
      go_wp2_with (at_builtin; refine wpList_apps rfl (.tmp 13) (.tmp 16) rfl (E := (encW encU)) el_nums (Acc.made _ wr 25 (Nat.le_refl _) (fun g => Y g ∧ some g ≠ u5.ownBlock) ⟨HY.out _ HG.out.size, fun e => by have := HOW.out _ e.symm; omega⟩) rfl rfl HSB.out HZ.out HBY.out (by simp) HNX.out ?_)
      intro v1 w1 hacc1 hg1 hm1
      obtain ⟨A1, c1, e1, _, _⟩ := hacc1.sl.form
      rw [HTL.out] at e1
      subst e1
      have HA1 := Lib.hid hacc1
      have HG1 : Hid (wr.grownBy w1 none) := Lib.hid (grown_up (World.grownBy_alloc wr _ none) hg1 (fun g e => by simp [Value.ownBlock] at e; omega))
      have HREP : Hid (Enc.rep (encW (encW encU)) (fun g => Y g ∧ some g ≠ u5.ownBlock) w1 [.slice A1 n c1] ((l.drop (j * n)).take n)) := Lib.hid (by
        have hn0 : 0 < ((l.drop (j * n)).take n).length := by rw [HTL.out]; omega
        exact ⟨_, rfl, hacc1.sl, hacc1.wr hn0⟩)
      clear hacc1 hg1 hm1
      have HLB : Hid (((chk n l j).length + 1) * 24 ≤ 140737488355328) := Lib.hid (by rw [HCL.out]; omega)
      have HAC1 := Lib.hid (HAC.out.kept HG1.out)
      have HG2 := Lib.hid (HG.out.trans HG1.out)
      have HBS : Hid (w.heap.size ≤ w1.heap.size) := Lib.hid HG2.out.size
      have HNY : Hid (∀ g, w1.heap.size ≤ g → Y g) := Lib.hid (fun g hg => HY.out g (Nat.le_trans HBS.out hg))
      go_wp2_with (at_builtin; refine wpList_push rfl (.tmp 12) (.tmp 18) rfl (E := encW (encW encU)) el_rows HAC1.out rfl rfl HREP.out HLB.out HBS.out HNY.out ?_)
      intro v2 w2 hacc2 hg2 hm2
      have HG3 : Hid (w.grownBy w2 none) := Lib.hid (grown_up HG2.out hg2 (fun g e => (HAC1.out.lt g e).1))
      have HG4 : Hid (wr.grownBy w2 u5.ownBlock) := Lib.hid ((grown_weak HG1.out).trans hg2)
      have HA2 : Hid (Acc (encW (encW encU)) w.heap.size 30 Y w2 v2 (chk n l (j + 1))) := Lib.hid (by rw [HSN.out]; exact hacc2)
      clear hacc2 hg2 hm2
      have HE : Hid (c = n → l.drop ((j + 1) * n) = []) := Lib.hid (fun hcn => HD0.out (by
        rcases Nat.eq_zero_or_pos m with h | h
        · exact h
        · have := Nat.mul_le_mul h (Nat.le_refl n)
          have := HQ.out
          omega))
      have HDR2 : Hid (Sl (encW encU) X w (.slice (some ⟨ga, oa + n, none⟩) (q - n) (c - n)) (l.drop ((j + 1) * n))) := Lib.hid (by rw [HQ.out]; exact HDR.out)
      clear HDR
      go_wp2_with fail
      all_goals
        go_roundg m
        case measure => omega
        case rel => first | exact ⟨j + 1, by omega, Lib.hid ⟨HDR2.out, HA2.out, HG3.out⟩⟩ | exact ⟨j + 1, by omega, Lib.hid ⟨by rw [HE.out (by assumption), show q - n = 0 by omega]; exact Sl.empty _ _ _ _ _ (by omega), HA2.out, HG3.out⟩⟩

set_option maxHeartbeats 400000 in
theorem cutP_any (v : Value) (l : List (Int × Int)) (n k : Nat) (X Y : Nat → Prop) (w : World) (h : Sl encP X w v l) (hn : 1 ≤ n) (hl : l.length = k * n) (hb : l.length ≤ 100000) (hY : ∀ g, w.heap.size ≤ g → Y g) (hXY : ∀ cs y w', Enc.rep encP (fun g => X g ∧ g < w.heap.size) w' cs y → Enc.rep encP (fun g => Y g ∧ g < w.heap.size) w' cs y) :
    Calls Tryd.prog 77 #[v, .int .i64 n] w (Gives (encW encP) Y w (chk n l k)) := by
  have hk : k ≤ 100000 := by
    have : k * 1 ≤ k * n := Nat.mul_le_mul_left k hn
    omega
  have hn2 : k ≠ 0 → n ≤ 100000 := fun h0 => by
    have : 1 * n ≤ k * n := Nat.mul_le_mul_right n (by omega)
    omega
  have HL := Lib.hid hl
  have HN2 := Lib.hid hn2
  have HY := Lib.hid hY
  have HXY := Lib.hid hXY
  have HST : Hid (Sl encP X w v (l.drop (0 * n)) ∧ Acc (encW encP) w.heap.size 38 Y w (.slice none 0 0) (chk n l 0) ∧ w.grownBy w none) := Lib.hid ⟨by simpa using h, Acc.nil _ _ _ _ _, World.grownBy.refl w none⟩
  clear h hl hn2 hY hXY hb
  go_enter Tryd.func77, Tryd.ntmps77
  go_wp2_with fail
  go_loopg [0, 5] k (fun g s0 s5 wx => ∃ j : Nat, j + g = k ∧ Hid (Sl encP X w s0 (l.drop (j * n)) ∧ Acc (encW encP) w.heap.size 38 Y wx s5 (chk n l j) ∧ w.grownBy wx none))
  case atStart => exact ⟨0, by omega, HST⟩
  case round =>
    obtain ⟨j, hj, HX⟩ := hrel
    cases gk with
    | zero =>
      obtain rfl : j = k := by omega
      obtain ⟨hs, hacc, hg⟩ := HX.out
      obtain ⟨A, c, rfl, _, _⟩ := hs.form
      have h0 : (l.drop (j * n)).length = 0 := by rw [List.length_drop, HL.out]; omega
      rw [h0]
      have HR : Hid (Sl (encW encP) Y wr u5 (chk n l j)) := Lib.hid hacc.sl
      have HG := Lib.hid hg
      clear hs hacc hg HX h0 HST
      go_wp2
      go_ret
      exact ⟨_, rfl, HR.out, HG.out⟩
    | succ m =>
      obtain ⟨hs, hacc, hg⟩ := HX.out
      have hmul : (j + 1 + m) * n = j * n + n + m * n := by rw [Nat.add_mul, Nat.add_mul, Nat.one_mul]
      have hlen : l.length = j * n + n + m * n := by rw [HL.out, ← hj, ← hmul]; congr 1; omega
      have hd : (l.drop (j * n)).length = n + m * n := by rw [List.length_drop]; omega
      obtain ⟨A, c, e0, hc1, hc2⟩ := hs.form
      subst e0
      obtain ⟨ga, oa, eA, hga, _⟩ := hs.addr (by omega)
      subst eA
      have HTK : Hid (Sl encP X w (.slice (some ⟨ga, oa, none⟩) n c) ((l.drop (j * n)).take n)) := Lib.hid (hs.take n (by omega))
      have HDR : Hid (Sl encP X w (.slice (some ⟨ga, oa + n * 2, none⟩) (n + m * n - n) (c - n)) (l.drop ((j + 1) * n))) := Lib.hid (by
        rw [hd] at hs
        have := hs.drop n (by omega)
        rwa [List.drop_drop, show j * n + n = (j + 1) * n by rw [Nat.add_mul, Nat.one_mul]] at this)
      have HD0 : Hid (m = 0 → l.drop ((j + 1) * n) = []) := Lib.hid (fun hm => List.drop_eq_nil_of_le (by rw [hlen, hm, Nat.add_mul]; omega))
      have HTL : Hid (((l.drop (j * n)).take n).length = n) := Lib.hid (by rw [List.length_take, hd]; omega)
      rw [hd] at hc1 ⊢
      have hn3 : n ≤ 100000 := HN2.out (by omega)
      have HAC := Lib.hid hacc
      have HG := Lib.hid hg
      have HSN := Lib.hid (chk_succ n l j)
      have HCL := Lib.hid (chk_length n l j)
      obtain ⟨q, hq⟩ : ∃ q, q = n + m * n := ⟨_, rfl⟩
      rw [← hq] at hc1 ⊢
      have hqn : n ≤ q := by omega
      clear hs hacc hg HX hd hlen hmul HST
      have HQ := Lib.hid hq
      have i1 : (0 : Int) < (q : Int) := by omega
      have i2 : (n : Int) ≤ (q : Int) := by omega
      have i3 : (n : Int) ≤ (c : Int) := by omega
      have i4 : (0 : Int) ≤ (n : Int) := by omega
      clear hq
      have HOW : Hid (∀ g, u5.ownBlock = some g → w.heap.size ≤ g ∧ g < wr.heap.size) := Lib.hid HAC.out.lt
      have HZ : Hid (∀ cs y, Enc.rep encP (fun g => X g ∧ g < w.heap.size) (wr.alloc (.cells #[] 44)) cs y → Enc.rep encP (fun g => (Y g ∧ some g ≠ u5.ownBlock) ∧ some g ≠ (Value.slice (some ⟨wr.heap.size, 0, none⟩) 0 0).ownBlock) (wr.alloc (.cells #[] 44)) cs y) :=
        Lib.hid (fun cs y hr => Enc.more _ (HXY.out _ _ _ hr) fun g _ hg => ⟨⟨hg.1, fun e => by have := HOW.out g e.symm; have := hg.2; omega⟩, fun e => by simp [Value.ownBlock] at e; have := hg.2; have := HG.out.size; omega⟩)
      have HSB : Hid (Sl encP (fun g => X g ∧ g < w.heap.size) (wr.alloc (.cells #[] 44)) (.slice (some ⟨ga, oa, none⟩) n c) ((l.drop (j * n)).take n)) := Lib.hid (HTK.out.bounded.kept (HG.out.trans (World.grownBy_alloc wr _ none)))
      have HBY : Hid ((([] : List (Int × Int)).length + ((l.drop (j * n)).take n).length) * 16 ≤ 140737488355328) := Lib.hid (by rw [HTL.out]; simp; omega)
      have HNX : Hid (∀ g, (wr.alloc (.cells #[] 44)).heap.size ≤ g → Y g ∧ some g ≠ u5.ownBlock) := Lib.hid (fun g hg => ⟨HY.out g (by have := HG.out.size; simp at hg; omega), fun e => by have := HOW.out g e.symm; simp at hg; omega⟩)
      go_wp2_with (at_builtin; refine wpList_apps rfl (.tmp 13) (.tmp 16) rfl (E := encP) el_pair (Acc.made _ wr 44 (Nat.le_refl _) (fun g => Y g ∧ some g ≠ u5.ownBlock) ⟨HY.out _ HG.out.size, fun e => by have := HOW.out _ e.symm; omega⟩) rfl rfl HSB.out HZ.out HBY.out (by simp) HNX.out ?_)
      intro v1 w1 hacc1 hg1 hm1
      obtain ⟨A1, c1, e1, _, _⟩ := hacc1.sl.form
      rw [HTL.out] at e1
      subst e1
      have HA1 := Lib.hid hacc1
      have HG1 : Hid (wr.grownBy w1 none) := Lib.hid (grown_up (World.grownBy_alloc wr _ none) hg1 (fun g e => by simp [Value.ownBlock] at e; omega))
      have HREP : Hid (Enc.rep (encW encP) (fun g => Y g ∧ some g ≠ u5.ownBlock) w1 [.slice A1 n c1] ((l.drop (j * n)).take n)) := Lib.hid (by
        have hn0 : 0 < ((l.drop (j * n)).take n).length := by rw [HTL.out]; omega
        exact ⟨_, rfl, hacc1.sl, hacc1.wr hn0⟩)
      clear hacc1 hg1 hm1
      have HLB : Hid (((chk n l j).length + 1) * 24 ≤ 140737488355328) := Lib.hid (by rw [HCL.out]; omega)
      have HAC1 := Lib.hid (HAC.out.kept HG1.out)
      have HG2 := Lib.hid (HG.out.trans HG1.out)
      have HBS : Hid (w.heap.size ≤ w1.heap.size) := Lib.hid HG2.out.size
      have HNY : Hid (∀ g, w1.heap.size ≤ g → Y g) := Lib.hid (fun g hg => HY.out g (Nat.le_trans HBS.out hg))
      go_wp2_with (at_builtin; refine wpList_push rfl (.tmp 12) (.tmp 18) rfl (E := encW encP) el_pairs HAC1.out rfl rfl HREP.out HLB.out HBS.out HNY.out ?_)
      intro v2 w2 hacc2 hg2 hm2
      have HG3 : Hid (w.grownBy w2 none) := Lib.hid (grown_up HG2.out hg2 (fun g e => (HAC1.out.lt g e).1))
      have HG4 : Hid (wr.grownBy w2 u5.ownBlock) := Lib.hid ((grown_weak HG1.out).trans hg2)
      have HA2 : Hid (Acc (encW encP) w.heap.size 38 Y w2 v2 (chk n l (j + 1))) := Lib.hid (by rw [HSN.out]; exact hacc2)
      clear hacc2 hg2 hm2
      have HE : Hid (c = n → l.drop ((j + 1) * n) = []) := Lib.hid (fun hcn => HD0.out (by
        rcases Nat.eq_zero_or_pos m with h | h
        · exact h
        · have := Nat.mul_le_mul h (Nat.le_refl n)
          have := HQ.out
          omega))
      have HDR2 : Hid (Sl encP X w (.slice (some ⟨ga, oa + n * 2, none⟩) (q - n) (c - n)) (l.drop ((j + 1) * n))) := Lib.hid (by rw [HQ.out]; exact HDR.out)
      clear HDR
      go_wp2_with fail
      all_goals
        go_roundg m
        case measure => omega
        case rel => first | exact ⟨j + 1, by omega, Lib.hid ⟨HDR2.out, HA2.out, HG3.out⟩⟩ | exact ⟨j + 1, by omega, Lib.hid ⟨by rw [HE.out (by assumption), show q - n = 0 by omega]; exact Sl.empty _ _ _ _ _ (by omega), HA2.out, HG3.out⟩⟩

end Go.Proofs.YtonkbmknanpchaaDoor

namespace Go.Proofs.YtonkbmknanpchaaDoor
open Go.RowKit

def dsmallB (p : Par) : Bool := decide (0 ≤ p.K) && decide (p.K ≤ 2) && decide (0 ≤ p.D) && decide (p.D ≤ 4) && decide (0 ≤ p.T) && decide (p.T ≤ 2)
theorem dsmallB_iff (p : Par) : dsmallB p = true ↔ 0 ≤ p.K ∧ p.K ≤ 2 ∧ 0 ≤ p.D ∧ p.D ≤ 4 ∧ 0 ≤ p.T ∧ p.T ≤ 2 := by
  simp [dsmallB, and_assoc]
theorem small_yes (p : Par) (w : World) (h : dsmallB p = true) : Calls Tryd.prog 52 #[p.v] w fun e w' => e = .returned (.bool true) ∧ w.grownBy w' none := by
  obtain ⟨a, b, c, d, e, f⟩ := (dsmallB_iff p).1 h
  clear h
  go_enter Tryd.func52, Tryd.ntmps52
  go_wp2_with fail
  all_goals
    go_ret
    exact ⟨rfl, World.grownBy_alloc w _ none⟩
theorem small_no (p : Par) (w : World) (h : dsmallB p = false) : Calls Tryd.prog 52 #[p.v] w fun e w' => e = .returned (.bool false) ∧ w.grownBy w' none := by
  have hn : ¬ (0 ≤ p.K ∧ p.K ≤ 2 ∧ 0 ≤ p.D ∧ p.D ≤ 4 ∧ 0 ≤ p.T ∧ p.T ≤ 2) := fun k => by rw [(dsmallB_iff p).2 k] at h; cases h
  clear h
  by_cases a : 0 ≤ p.K
  · by_cases c : 0 ≤ p.D
    · by_cases e : 0 ≤ p.T
      · by_cases b : p.K ≤ 2
        · by_cases d : p.D ≤ 4
          · have f : ¬ p.T ≤ 2 := by omega
            clear hn
            go_enter Tryd.func52, Tryd.ntmps52
            go_wp2_with fail
            all_goals (first | (go_ret; exact ⟨rfl, World.grownBy_alloc w _ none⟩) | (exfalso; omega))
          · clear hn
            go_enter Tryd.func52, Tryd.ntmps52
            go_wp2_with fail
            all_goals (first | (go_ret; exact ⟨rfl, World.grownBy_alloc w _ none⟩) | (exfalso; omega))
        · clear hn
          go_enter Tryd.func52, Tryd.ntmps52
          go_wp2_with fail
          all_goals (first | (go_ret; exact ⟨rfl, World.grownBy_alloc w _ none⟩) | (exfalso; omega))
      · clear hn
        go_enter Tryd.func52, Tryd.ntmps52
        go_wp2_with fail
        all_goals (first | (go_ret; exact ⟨rfl, World.grownBy_alloc w _ none⟩) | (exfalso; omega))
    · clear hn
      go_enter Tryd.func52, Tryd.ntmps52
      go_wp2_with fail
      all_goals (first | (go_ret; exact ⟨rfl, World.grownBy_alloc w _ none⟩) | (exfalso; omega))
  · clear hn
    go_enter Tryd.func52, Tryd.ntmps52
    go_wp2_with fail
    all_goals (first | (go_ret; exact ⟨rfl, World.grownBy_alloc w _ none⟩) | (exfalso; omega))
theorem dlret_i64 {a b : Int} (h : a = b) : Ending.returned (.int .i64 a) = .returned (.int .i64 b) := by rw [h]
def secI (p : Par) : Int := p.K * (p.D + 1)
theorem secI_bds {p : Par} (h : dsmallB p = true) : 0 ≤ secI p ∧ secI p ≤ 10 := by
  obtain ⟨a, b, c, d, e, f⟩ := (dsmallB_iff p).1 h
  have h1 : p.K * (p.D + 1) ≤ 2 * 5 := Int.mul_le_mul b (by omega) (by omega) (by omega)
  have h2 : 0 ≤ p.K * (p.D + 1) := Int.mul_nonneg a (by omega)
  unfold secI
  omega
theorem dlsecrets_any (p : Par) (w : World) (h : dsmallB p = true) : Calls Tryd.prog 35 #[p.v] w fun e w' => e = .returned (.int .i64 (secI p)) ∧ w.grownBy w' none := by
  obtain ⟨a, b, c, d, e, f⟩ := (dsmallB_iff p).1 h
  have HE : Hid (p.K * (p.D + 1) = secI p) := Lib.hid rfl
  have h1 : p.K * (p.D + 1) ≤ 2 * 5 := Int.mul_le_mul b (by omega) (by omega) (by omega)
  have h2 : 0 ≤ p.K * (p.D + 1) := Int.mul_nonneg a (by omega)
  clear h
  go_enter Tryd.func35, Tryd.ntmps35
  go_wp2_with fail
  go_ret
  exact ⟨dlret_i64 HE.out, World.grownBy_alloc w _ none⟩
theorem rsecrets_any (p : Par) (w : World) (h : dsmallB p = true) : Calls Tryd.prog 34 #[p.v] w fun e w' => e = .returned (.int .i64 (secI p)) ∧ w.grownBy w' none := by
  obtain ⟨a, b, c, d, e, f⟩ := (dsmallB_iff p).1 h
  have HE : Hid (p.K * (p.D + 1) = secI p) := Lib.hid rfl
  have h1 : p.K * (p.D + 1) ≤ 2 * 5 := Int.mul_le_mul b (by omega) (by omega) (by omega)
  have h2 : 0 ≤ p.K * (p.D + 1) := Int.mul_nonneg a (by omega)
  clear h
  go_enter Tryd.func34, Tryd.ntmps34
  go_wp2_with fail
  go_ret
  exact ⟨dlret_i64 HE.out, World.grownBy_alloc w _ none⟩
theorem pairedf_any (v : Value) (a b : Int) (X : Nat → Prop) (w : World) (h : Sl encU X w v [a, b]) : Calls Tryd.prog 79 #[v] w fun e w' => e = .returned (.agg #[.int .u64 a, .int .u64 b]) ∧ w.grownBy w' none := by
  have H := Lib.hid h
  obtain ⟨A, c, rfl, hc1, hc2⟩ := h.form
  obtain ⟨g, o, c', e, hg, _, h0, _⟩ := H.out.atU (k := 0) (by simp)
  injection e with e1 e2 e3
  subst e1 e3
  obtain ⟨g', o', c'', e, _, _, h1, _⟩ := H.out.atU (k := 1) (by simp)
  injection e with e1 e2 e3
  injection e1 with e1
  injection e1 with e1 e4
  subst e1 e4
  simp only [List.getElem_cons_zero, List.getElem_cons_succ, Nat.add_zero] at h0 h1
  have h2 : ([a, b].length : Nat) = 2 := rfl
  rw [h2]
  have n0 := World.new_ne w _ h0
  have n1 := World.new_ne w _ h1
  have z0 := fun n => (zero_pair w n).1
  have z1 := fun n => (zero_pair w n).2.1
  have z2 := fun n => (zero_pair w n).2.2.1
  have z3 := fun n => (zero_pair w n).2.2.2
  clear h e2 e3 h2 hc1
  go_enter Tryd.func79, Tryd.ntmps79
  go_wp2_with fail
  go_region_held3 (fun w' => w'.cell? ⟨g, o, none⟩ = some (.int .u64 a) ∧ w'.cell? ⟨g, o + 1, none⟩ = some (.int .u64 b)) (go_keep) (fail)
  go_wp2_with fail
  refine bodyPost_ret (v := .agg #[.int .u64 a, .int .u64 b]) (by simp [results, Tryd.results79, go_sem]) rfl ⟨rfl, ?_⟩
  exact grownBy_drewN (World.grownBy_alloc w _ none) 1
def pairOf (l : List Int) : Int × Int := (l[0]?.getD 0, l[1]?.getD 0)
theorem map_take_snoc {α β : Type} (f : α → β) (l : List α) (j : Nat) (h : j < l.length) : (l.take (j + 1)).map f = (l.take j).map f ++ [f l[j]] := by
  rw [List.take_succ_eq_append_getElem h, List.map_append]
  rfl
theorem pairOf_rep {X : Nat → Prop} {w : World} {v : Value} {l : List Int} (h : Sl encU X w v l) (h2 : l.length = 2) : U64 (pairOf l).1 ∧ U64 (pairOf l).2 ∧ l = [(pairOf l).1, (pairOf l).2] := by
  match l, h2 with
  | [a, b], _ =>
    obtain ⟨_, _, _, _, _, _, _, u0⟩ := h.atU (k := 0) (by simp)
    obtain ⟨_, _, _, _, _, _, _, u1⟩ := h.atU (k := 1) (by simp)
    exact ⟨u0, u1, rfl⟩
theorem pairedf_of (v : Value) (l : List Int) (X : Nat → Prop) (w : World) (h : Sl encU X w v l) (h2 : l.length = 2) : Calls Tryd.prog 79 #[v] w fun e w' => e = .returned (.agg #[.int .u64 (pairOf l).1, .int .u64 (pairOf l).2]) ∧ w.grownBy w' none := by
  obtain ⟨_, _, q⟩ := pairOf_rep h h2
  exact pairedf_any v _ _ X w (q ▸ h)
set_option maxHeartbeats 400000 in
theorem eachp_any (v : Value) (ls : List (List Int)) (X : Nat → Prop) (w : World) (h : Sl (encS encU) X w v ls) (h2 : ∀ l ∈ ls, l.length = 2) (hb : ls.length ≤ 100000) :
    Calls Tryd.prog 78 #[v, .func (.func 79) #[] #[]] w (Gives encP (fun g => w.heap.size ≤ g) w (ls.map pairOf)) := by
  have H := Lib.hid h
  have H2 := Lib.hid h2
  have HST : Hid (Acc encP w.heap.size 44 (fun g => w.heap.size ≤ g) w (.slice none 0 0) ((ls.take 0).map pairOf) ∧ w.grownBy w none) := Lib.hid ⟨Acc.nil _ _ _ _ _, World.grownBy.refl w none⟩
  obtain ⟨A, c, rfl, hc1, hc2⟩ := h.form
  clear h h2
  go_enter Tryd.func78, Tryd.ntmps78
  go_wp2_with fail
  go_loopg [5, 10] ls.length (fun g s5 s10 wx => ∃ j : Nat, j + g = ls.length ∧ s10 = .int .i64 j ∧ Hid (Acc encP w.heap.size 44 (fun g => w.heap.size ≤ g) wx s5 ((ls.take j).map pairOf) ∧ w.grownBy wx none))
  case atStart => exact ⟨0, by omega, rfl, HST⟩
  case round =>
    obtain ⟨j, hj, rfl, HX⟩ := hrel
    cases gk with
    | zero =>
      obtain rfl : j = ls.length := by omega
      have HR : Hid (Sl encP (fun g => w.heap.size ≤ g) wr u5 (ls.map pairOf)) := Lib.hid (by have := HX.out.1.sl; rwa [List.take_length] at this)
      have HG := Lib.hid HX.out.2
      clear HX HST
      go_wp2
      go_ret
      exact ⟨_, rfl, HR.out, HG.out⟩
    | succ m =>
      have hjn : (j : Int) < (ls.length : Int) := by omega
      have hjN : j < ls.length := by omega
      obtain ⟨hacc, hg⟩ := HX.out
      obtain ⟨g, o, c', u, e, _, _, hcu, hsu⟩ := (H.out.kept hg).atS hjN
      injection e with e1 e2 e3
      subst e1 e3
      obtain ⟨A1, c1, e1, _, _⟩ := hsu.form
      have h2j := H2.out _ (List.getElem_mem hjN)
      rw [h2j] at e1
      subst e1
      obtain ⟨q1, q2, _⟩ := pairOf_rep hsu h2j
      have HSN := Lib.hid (map_take_snoc pairOf ls j hjN)
      have HF := Lib.hid (pairedf_of _ ls[j] X wr hsu h2j)
      have HREP : Hid (U64 (pairOf ls[j]).1 ∧ U64 (pairOf ls[j]).2) := Lib.hid ⟨q1, q2⟩
      have HAC := Lib.hid hacc
      have HG := Lib.hid hg
      have HLB : Hid ((((ls.take j).map pairOf).length + 1) * 16 ≤ 140737488355328) := Lib.hid (by simp; omega)
      clear hacc hg hsu e2 q1 q2 h2j HX HST
      generalize pairOf ls[j] = pj at *
      go_wp2_with fail
      refine HF.out.mono ?_
      rintro e' w1 ⟨rfl, hg1⟩
      have HG1 := Lib.hid hg1
      have HG2 := Lib.hid (HG.out.trans hg1)
      have HA1 := Lib.hid (HAC.out.kept hg1)
      clear hg1
      go_wp2_with (at_builtin; refine wpList_pushG rfl (.tmp 14) (.tmp 18) rfl (E := encP) el_pair HG2.out HA1.out (fun _ h => h) ⟨rfl, HREP.out⟩ HLB.out rfl rfl ?_)
      intro v2 w2 hacc2 hg2 _
      have HFIN : Hid (Acc encP w.heap.size 44 (fun g => w.heap.size ≤ g) w2 v2 ((ls.take (j + 1)).map pairOf) ∧ w.grownBy w2 none) := Lib.hid ⟨by rw [HSN.out]; simpa using hacc2, hg2⟩
      clear hacc2 hg2
      go_wp2_with fail
      go_roundg m
      case measure => omega
      case rel => exact ⟨j + 1, by omega, by go_num, HFIN⟩
/-- The pairs that numbers are, k of them. -/
def prsI (l : List Int) (k : Nat) : List (Int × Int) := (chk 2 l k).map pairOf
theorem prsI_length (l : List Int) (k : Nat) : (prsI l k).length = k := by simp [prsI, chk_length]
set_option maxHeartbeats 400000 in
theorem paired_any (v : Value) (l : List Int) (k : Nat) (X : Nat → Prop) (w : World) (h : Sl encU X w v l) (hl : l.length = k * 2) (hb : l.length ≤ 100000) :
    Calls Tryd.prog 56 #[v] w (Gives encP (fun g => w.heap.size ≤ g) w (prsI l k)) := by
  have HC := Lib.hid (cutU_any v l 2 k X (fun _ => True) w h (by decide) hl hb (fun _ _ => trivial) (fun _ _ _ h => h))
  have HK : Hid (k ≤ 100000) := Lib.hid (by omega)
  have H2 : Hid (∀ x ∈ chk 2 l k, x.length = 2) := Lib.hid (fun x hx => by
    obtain ⟨j, hj, rfl⟩ := List.mem_map.1 hx
    have hj' : j < k := by simpa using hj
    rw [List.length_take, List.length_drop, hl]
    omega)
  clear h hl hb
  go_enter Tryd.func56, Tryd.ntmps56
  go_wp2_with fail
  refine HC.out.mono ?_
  rintro e w1 ⟨v1, rfl, hs, hg⟩
  have HG := Lib.hid hg
  have HE := Lib.hid (eachp_any v1 (chk 2 l k) _ w1 hs.plain H2.out (by rw [chk_length]; exact HK.out))
  clear hs hg
  go_wp2_with fail
  refine HE.out.mono ?_
  rintro e w2 ⟨v2, rfl, hs, hg⟩
  have HFIN : Hid (Sl encP (fun g => w.heap.size ≤ g) w2 v2 (prsI l k) ∧ w.grownBy w2 none) := Lib.hid ⟨hs.more (fun g _ hg' => Nat.le_trans HG.out.size hg'), HG.out.trans hg⟩
  clear hs hg
  go_wp2
  go_ret
  exact ⟨_, rfl, HFIN.out.1, HFIN.out.2⟩
end Go.Proofs.YtonkbmknanpchaaDoor

namespace Go.Proofs.YtonkbmknanpchaaDoor
open Go.RowKit

/-- n lists of so many things each. -/
def lstI {α : Type} (l : List α) (n each : Nat) : List (List α) := chk each l n
set_option maxHeartbeats 400000 in
theorem lists_any (v : Value) (l : List (Int × Int)) (n k : Nat) (X Y : Nat → Prop) (w : World) (h : Sl encP X w v l) (hl : l.length = n * k) (hn : n ≤ 100) (hk : k ≤ 100) (hY : ∀ g, w.heap.size ≤ g → Y g) :
    Calls Tryd.prog 55 #[v, .int .i64 n, .int .i64 k] w (Gives (encS encP) Y w (chk k l n)) := by
  have hlb : l.length ≤ 100000 := by
    have : n * k ≤ 100 * 100 := Nat.mul_le_mul hn hk
    omega
  by_cases h0 : k = 0
  · subst h0
    have HE : Hid (chk 0 l n = List.replicate n []) := Lib.hid (by simp [chk, List.map_const'])
    obtain ⟨A, c, rfl, _, _⟩ := h.form
    have hmk := run_make_row' (P := Tryd.prog) 29 38 (.slice none 0 0) 24 Tryd.underlying29 info_pairs rfl .i64 .i64 n (by omega) (by omega)
    have HN := Lib.hid (And.intro hn (hY _ (Nat.le_refl _)))
    clear h hl hlb hY
    go_enter Tryd.func55, Tryd.ntmps55
    go_wp2
    go_ret
    have hb : Bk (w.alloc (.cells (madeCells #[.slice none 0 0] n) 38)) w.heap.size 38 (madeCells #[.slice none 0 0] n) := Bk.new w _ _
    exact ⟨_, rfl, by rw [HE.out]; exact Sl.nils encP Y hb HN.out.2 (by have := HN.out.1; omega), World.grownBy_alloc w _ none⟩
  · have hk1 : 1 ≤ k := by omega
    have hkI : ((k : Int) == 0) = false := by simp; omega
    have HC := Lib.hid (cutP_any v l k n X Y w h hk1 hl hlb hY (fun _ _ _ h => h))
    clear h hl hY hlb h0
    go_enter Tryd.func55, Tryd.ntmps55
    go_wp2_with fail
    refine HC.out.mono ?_
    rintro e w1 ⟨v1, rfl, hs, hg⟩
    have HS := Lib.hid hs.plain
    have HG := Lib.hid hg
    clear hs hg
    go_wp2
    go_ret
    exact ⟨_, rfl, HS.out, HG.out⟩
/-- What OpenPairs tells: nothing but an error, or the pairs. -/
def opE (p : Par) (n : Nat) : Int := if dsmallB p = true then (if (n : Int) = 2 * secI p then 0 else 4) else 1
def opL (p : Par) (l : List Int) : List (Int × Int) := if opE p l.length = 0 then prsI l (secI p).toNat else []
/-- What OpenComs tells. -/
def ocE (p : Par) (n : Nat) : Int := if dsmallB p = true then (if (n : Int) = (p.T + 1) * secI p then 0 else 4) else 1
def ocL (p : Par) (l : List Int) : List (List Int) := if ocE p l.length = 0 then chk (p.T + 1).toNat l (secI p).toNat else []
theorem sec_nat {p : Par} (h : dsmallB p = true) : ∃ q t : Nat, secI p = (q : Int) ∧ p.T + 1 = (t : Int) ∧ q ≤ 10 ∧ 1 ≤ t ∧ t ≤ 3 := by
  obtain ⟨a, b, c, d, e, f⟩ := (dsmallB_iff p).1 h
  obtain ⟨h1, h2⟩ := secI_bds h
  exact ⟨(secI p).toNat, (p.T + 1).toNat, by omega, by omega, by omega, by omega, by omega⟩
/-- What Open tells. -/
def opnE (p : Par) (n : Nat) (k : Int) : Int := if dsmallB p = true ∧ 0 ≤ k ∧ k ≤ 3 then (if (n : Int) = secI p * (p.T + 1) * (p.T + 1) + 2 * (2 * secI p * k) then 0 else 4) else 1
def opnM (p : Par) (l : List Int) (k : Int) : List (List (List Int)) := if opnE p l.length k = 0 then chk (p.T + 1).toNat (chk (p.T + 1).toNat (l.take ((secI p).toNat * (p.T + 1).toNat * (p.T + 1).toNat)) ((secI p).toNat * (p.T + 1).toNat)) (secI p).toNat else []
def opnA (p : Par) (l : List Int) (k : Int) : List (List (Int × Int)) := if opnE p l.length k = 0 then chk k.toNat (prsI ((l.drop ((secI p).toNat * (p.T + 1).toNat * (p.T + 1).toNat)).take (2 * (secI p).toNat * k.toNat)) ((secI p).toNat * k.toNat)) (secI p).toNat else []
def opnB (p : Par) (l : List Int) (k : Int) : List (List (Int × Int)) := if opnE p l.length k = 0 then chk k.toNat (prsI (l.drop ((secI p).toNat * (p.T + 1).toNat * (p.T + 1).toNat + 2 * (secI p).toNat * k.toNat)) ((secI p).toNat * k.toNat)) (secI p).toNat else []
def Gives4 (Y : Nat → Prop) (w : World) (m : List (List (List Int))) (a b : List (List (Int × Int))) (n : Int) (e : Ending) (w' : World) : Prop :=
  ∃ vm va vb, e = .returned (.tuple #[vm, va, vb, .int .i64 n]) ∧ Sl (encW (encW encU)) Y w' vm m ∧ Sl (encS encP) Y w' va a ∧ Sl (encS encP) Y w' vb b ∧ w.grownBy w' none
set_option maxHeartbeats 1000000 in
theorem open_any (p : Par) (v : Value) (l : List Int) (k : Int) (X : Nat → Prop) (w : World) (h : Sl encU X w v l) (hb : l.length ≤ 1500) (hk : I64 k) :
    Calls Tryd.prog 18 #[p.v, v, .int .i64 k] w (Gives4 (fun g => w.heap.size ≤ g) w (opnM p l k) (opnA p l k) (opnB p l k) (opnE p l.length k)) := by
  have H := Lib.hid h
  obtain ⟨A, c, rfl, hlc, hcm⟩ := h.form
  have HB0 : Hid (Bk (w.alloc (Obj.cells p.cells 24)) w.heap.size 24 p.cells) := Lib.hid (Bk.new w _ _)
  have HG0 : Hid (w.grownBy (w.alloc (Obj.cells p.cells 24)) none) := Lib.hid (World.grownBy_alloc w _ none)
  have hp0 := HB0.out.prule
  obtain ⟨k0, k1⟩ := hk
  clear h
  cases hs : dsmallB p with
  | false =>
    have HE : Hid (opnE p l.length k = 1 ∧ opnM p l k = [] ∧ opnA p l k = [] ∧ opnB p l k = []) := Lib.hid (by simp [opnM, opnA, opnB, opnE, hs])
    have HC := Lib.hid (fun w => small_no p w hs)
    clear hs
    go_enter Tryd.func18, Tryd.ntmps18
    go_wp2_with fail
    refine (HC.out _).mono ?_
    rintro e w1 ⟨rfl, hg⟩
    have HG := hidTrans hg HG0
    clear hg
    go_wp2
    refine bodyPost_ret (v := .tuple #[.slice none 0 0, .slice none 0 0, .slice none 0 0, .int .i64 1]) (by simp [results, Tryd.results18, go_sem]) rfl ?_
    rw [HE.out.1, HE.out.2.1, HE.out.2.2.1, HE.out.2.2.2]
    exact ⟨_, _, _, rfl, Sl.nil _ _ _, Sl.nil _ _ _, Sl.nil _ _ _, HG.out⟩
  | true =>
    have HC := Lib.hid (fun w => small_yes p w hs)
    by_cases hk3 : 0 ≤ k ∧ k ≤ 3
    · obtain ⟨k2, k3⟩ := hk3
      have HS := Lib.hid (fun w => dlsecrets_any p w hs)
      obtain ⟨kk, rfl⟩ := Int.eq_ofNat_of_zero_le k2
      obtain ⟨q, t, hq, ht, q1, t1, t2⟩ := sec_nat hs
      obtain ⟨qt, hqt⟩ : ∃ n, n = q * t := ⟨_, rfl⟩
      obtain ⟨F, hF⟩ : ∃ n, n = qt * t := ⟨_, rfl⟩
      obtain ⟨M, hM⟩ : ∃ n, n = 2 * q * kk := ⟨_, rfl⟩
      have bqt : qt ≤ 30 := by rw [hqt]; exact Nat.mul_le_mul q1 t2
      have bF : F ≤ 90 := by rw [hF]; exact Nat.mul_le_mul bqt t2
      have bM : M ≤ 60 := by rw [hM]; exact Nat.mul_le_mul (Nat.mul_le_mul_left 2 q1) (show kk ≤ 3 by omega)
      have k1' : IntKind.i64.wrap (p.T + 1) = (t : Int) := by rw [ht]; exact IntWalk.i64_in _ (by omega)
      have e1 : (q : Int) * (t : Int) = (qt : Int) := by rw [hqt]; simp
      have e2 : (qt : Int) * (t : Int) = (F : Int) := by rw [hF]; simp
      have e3 : 2 * (q : Int) * (kk : Int) = (M : Int) := by rw [hM]; simp
      rw [hq] at HS
      have HC4 : opnE p l.length (kk : Int) = if (l.length : Int) = F + 2 * M then 0 else 4 := by
        simp only [opnE, hs, hq, ht, e1, e2, e3]
        simp [k2, k3]
      have ht1 : (p.T + 1).toNat = t := by omega
      have hq1 : (secI p).toNat = q := by omega
      by_cases hl : (l.length : Int) = F + 2 * M
      · rw [if_pos hl] at HC4
        have HEM : Hid (opnM p l kk = chk t (chk t (l.take F) qt) q) := Lib.hid (by simp only [opnM, HC4, ht1, hq1, if_true]; rw [← hqt, ← hF])
        have HEA : Hid (opnA p l kk = chk kk (prsI ((l.drop F).take M) (q * kk)) q) := Lib.hid (by simp only [opnA, HC4, ht1, hq1, if_true, Int.toNat_natCast]; rw [← hqt, ← hF, ← hM])
        have HEB : Hid (opnB p l kk = chk kk (prsI (l.drop (F + M)) (q * kk)) q) := Lib.hid (by simp only [opnB, HC4, ht1, hq1, if_true, Int.toNat_natCast]; rw [← hqt, ← hF, ← hM])
        have HE0 := Lib.hid HC4
        have hll : l.length = F + 2 * M := by omega
        have hMq : M = (q * kk) * 2 := by rw [hM, Nat.mul_assoc, Nat.mul_comm]
        have hqk : q * kk ≤ 30 := Nat.mul_le_mul q1 (show kk ≤ 3 by omega)
        have hd0 : l.drop F = [] → l.length ≤ F := fun h => by have := congrArg List.length h; simp at this; omega
        by_cases hz : l.length = 0
        · obtain rfl : F = 0 := by omega
          obtain rfl : M = 0 := by omega
          have hl0 : l = [] := List.eq_nil_of_length_eq_zero hz
          have HS1 : Hid (Sl encU X w (.slice A 0 c) (l.take 0)) := Lib.hid (Sl.empty _ _ _ _ _ hcm)
          clear hd0
          by_cases hc0 : c = 0
          · subst hc0
            have e2' : (qt : Int) * (t : Int) = 0 := e2
            have e3' : 2 * (q : Int) * (kk : Int) = 0 := e3
            clear e2 e3 bF bM
            have HS2 : Hid (Sl encU X w (.slice A 0 0) ((l.drop 0).take 0)) := Lib.hid (by rw [hl0]; exact Sl.empty _ _ _ _ _ (by omega))
            have HS3 : Hid (Sl encU X w (.slice A 0 0) (l.drop (0 + 0))) := Lib.hid (by rw [hl0]; exact Sl.empty _ _ _ _ _ (by omega))
            have H1 := Lib.hid (fun (w' : World) (hw : w.grownBy w' none) => cutU_any _ (l.take 0) t qt X (fun g => w.heap.size ≤ g) w' (HS1.out.kept hw) t1 (by rw [List.length_take, ← hF]; simp) (by rw [List.length_take]; omega) (fun g h => Nat.le_trans hw.size h) (fun _ _ _ h => h))
            have H2 := Lib.hid (fun (v : Value) (w' : World) (hw : w.grownBy w' none) (hv : Sl (encW encU) (fun g => w.heap.size ≤ g) w' v (chk t (l.take 0) qt)) => cutR_any v _ t q _ (fun g => w.heap.size ≤ g) w' hv t1 (by rw [chk_length, hqt]) (by rw [chk_length]; omega) (fun g h => Nat.le_trans hw.size h) (fun _ _ _ h => h))
            have H3 := Lib.hid (fun (w' : World) (hw : w.grownBy w' none) => paired_any _ ((l.drop 0).take 0) (q * kk) X w' (HS2.out.kept hw) (by rw [List.length_take, ← hMq]; simp) (by rw [List.length_take, List.length_drop]; omega))
            have H4 := Lib.hid (fun (w' : World) (hw : w.grownBy w' none) => paired_any _ (l.drop (0 + 0)) (q * kk) X w' (HS3.out.kept hw) (by rw [List.length_drop, ← hMq]; omega) (by rw [List.length_drop]; omega))
            have H5 := Lib.hid (fun (v : Value) (ps : List (Int × Int)) (w' : World) (hw : w.grownBy w' none) (Z : Nat → Prop) (hv : Sl encP Z w' v ps) (hps : ps.length = q * kk) => lists_any v ps q kk Z (fun g => w.heap.size ≤ g) w' hv hps (by omega) (by omega) (fun g h => Nat.le_trans hw.size h))
            have hd : ((l.length : Int) != 0) = false := by simpa using hl
            have i1 : (0 : Int) ≤ (l.length : Int) := by omega
            have i2 : (0 : Int) + (0 : Int) ≤ (l.length : Int) := by omega
            have i3 : (l.length : Int) ≤ ((0 : Nat) : Int) := by omega
            have i4 : (0 : Int) + 2 * (0 : Int) ≤ ((0 : Nat) : Int) := by omega
            have HMM := Lib.hid hMq
            clear hs hl hq ht hqt hF hM HC4 ht1 hq1 hll hMq hz hlc
            go_enter Tryd.func18, Tryd.ntmps18
            go_wp2_with fail
            refine (HC.out _).mono ?_
            rintro e w1 ⟨rfl, hg⟩
            have HG1 := hidTrans hg HG0
            have HB1 := bkGrown hg HB0
            have hp1 := HB1.out.prule
            have hs1 := HB1.out.lt
            clear hg hp0
            go_wp2_with fail
            have HG4 : Hid (w.grownBy w1.drew none) := Lib.hid (grownBy_drewN HG1.out 1)
            have HB4 : Hid (Bk w1.drew w.heap.size 24 p.cells) := Lib.hid (HB1.out.drewN 1)
            go_region_held3 (fun w' => ∀ o, w'.cell? ⟨w.heap.size, o, none⟩ = (#[.int .u64 p.P, .int .u64 p.Q, .int .u64 p.G, .int .u64 p.H, .int .i64 p.Nodes, .int .i64 p.N, .int .i64 p.T, .int .i64 p.K, .int .i64 p.D, .int .i64 p.R, .int .i64 p.M, .int .i64 p.X] : Array Value)[o]?) (first | assumption | exact rule_alloc (by assumption) (by assumption) _ | go_keep) (first
              | (go_at_call 35; (with_reducible refine (HS.out _).mono ?_); rintro e' w' ⟨rfl, hg⟩; have HGx := hidTrans hg (by assumption); have HBx := bkGrown hg (by assumption); have hpx := HBx.out.prule; have hsx := HBx.out.lt; clear hg))
            go_wp2_with fail
            refine (H1.out _ HGx.out).mono ?_
            rintro e w3 ⟨v3, rfl, hs3, hg3⟩
            have HG3 := Lib.hid (HGx.out.trans hg3)
            have HV3 := Lib.hid hs3
            clear hs3 hg3
            go_wp2_with fail
            refine (H2.out _ _ HG3.out HV3.out).mono ?_
            rintro e w4 ⟨v4, rfl, hs4, hg4⟩
            have HG4 := Lib.hid (HG3.out.trans hg4)
            have HV4 := Lib.hid hs4
            clear hs4 hg4 HV3
            go_wp2_with fail
            refine (H3.out _ HG4.out).mono ?_
            rintro e w5 ⟨v5, rfl, hs5, hg5⟩
            have HG5 := Lib.hid (HG4.out.trans hg5)
            have HV5 := Lib.hid hs5
            have HV4' := Lib.hid (HV4.out.kept hg5)
            clear hs5 hg5 HV4
            go_wp2_with fail
            refine (H5.out _ _ _ HG5.out _ HV5.out (prsI_length _ _)).mono ?_
            rintro e w6 ⟨v6, rfl, hs6, hg6⟩
            have HG6 := Lib.hid (HG5.out.trans hg6)
            have HV6 := Lib.hid hs6
            have HV4 := Lib.hid (HV4'.out.kept hg6)
            clear hs6 hg6 HV4' HV5
            go_wp2_with fail
            refine (H4.out _ HG6.out).mono ?_
            rintro e w7 ⟨v7, rfl, hs7, hg7⟩
            have HG7 := Lib.hid (HG6.out.trans hg7)
            have HV7 := Lib.hid hs7
            have HV4' := Lib.hid (HV4.out.kept hg7)
            have HV6' := Lib.hid (HV6.out.kept hg7)
            clear hs7 hg7 HV4 HV6
            go_wp2_with fail
            refine (H5.out _ _ _ HG7.out _ HV7.out (prsI_length _ _)).mono ?_
            rintro e w8 ⟨v8, rfl, hs8, hg8⟩
            have HG8 := Lib.hid (HG7.out.trans hg8)
            have HV8 := Lib.hid hs8
            have HV4 := Lib.hid (HV4'.out.kept hg8)
            have HV6 := Lib.hid (HV6'.out.kept hg8)
            clear hs8 hg8 HV4' HV6' HV7
            go_wp2
            refine bodyPost_ret (v := .tuple #[v4, v6, v8, .int .i64 0]) (by simp [results, Tryd.results18, go_sem]) rfl ?_
            rw [HE0.out, HEM.out, HEA.out, HEB.out]
            exact ⟨_, _, _, rfl, HV4.out, HV6.out, HV8.out, HG8.out⟩
          · have x0 : ¬ c = 0 := hc0
            have e2' : (qt : Int) * (t : Int) = 0 := e2
            have e3' : 2 * (q : Int) * (kk : Int) = 0 := e3
            clear e2 e3 bF bM
            have HS2 : Hid (Sl encU X w (.slice A 0 c) ((l.drop 0).take 0)) := Lib.hid (by rw [hl0]; exact Sl.empty _ _ _ _ _ hcm)
            have HS3 : Hid (Sl encU X w (.slice A 0 c) (l.drop (0 + 0))) := Lib.hid (by rw [hl0]; exact Sl.empty _ _ _ _ _ hcm)
            have H1 := Lib.hid (fun (w' : World) (hw : w.grownBy w' none) => cutU_any _ (l.take 0) t qt X (fun g => w.heap.size ≤ g) w' (HS1.out.kept hw) t1 (by rw [List.length_take, ← hF]; simp) (by rw [List.length_take]; omega) (fun g h => Nat.le_trans hw.size h) (fun _ _ _ h => h))
            have H2 := Lib.hid (fun (v : Value) (w' : World) (hw : w.grownBy w' none) (hv : Sl (encW encU) (fun g => w.heap.size ≤ g) w' v (chk t (l.take 0) qt)) => cutR_any v _ t q _ (fun g => w.heap.size ≤ g) w' hv t1 (by rw [chk_length, hqt]) (by rw [chk_length]; omega) (fun g h => Nat.le_trans hw.size h) (fun _ _ _ h => h))
            have H3 := Lib.hid (fun (w' : World) (hw : w.grownBy w' none) => paired_any _ ((l.drop 0).take 0) (q * kk) X w' (HS2.out.kept hw) (by rw [List.length_take, ← hMq]; simp) (by rw [List.length_take, List.length_drop]; omega))
            have H4 := Lib.hid (fun (w' : World) (hw : w.grownBy w' none) => paired_any _ (l.drop (0 + 0)) (q * kk) X w' (HS3.out.kept hw) (by rw [List.length_drop, ← hMq]; omega) (by rw [List.length_drop]; omega))
            have H5 := Lib.hid (fun (v : Value) (ps : List (Int × Int)) (w' : World) (hw : w.grownBy w' none) (Z : Nat → Prop) (hv : Sl encP Z w' v ps) (hps : ps.length = q * kk) => lists_any v ps q kk Z (fun g => w.heap.size ≤ g) w' hv hps (by omega) (by omega) (fun g h => Nat.le_trans hw.size h))
            have hd : ((l.length : Int) != 0) = false := by simpa using hl
            have i1 : (0 : Int) ≤ (l.length : Int) := by omega
            have i2 : (0 : Int) + (0 : Int) ≤ (l.length : Int) := by omega
            have i3 : (l.length : Int) ≤ (c : Int) := by omega
            have i4 : (0 : Int) + 2 * (0 : Int) ≤ (c : Int) := by omega
            have HMM := Lib.hid hMq
            clear hs hl hq ht hqt hF hM HC4 ht1 hq1 hll hMq hz hlc
            go_enter Tryd.func18, Tryd.ntmps18
            go_wp2_with fail
            refine (HC.out _).mono ?_
            rintro e w1 ⟨rfl, hg⟩
            have HG1 := hidTrans hg HG0
            have HB1 := bkGrown hg HB0
            have hp1 := HB1.out.prule
            have hs1 := HB1.out.lt
            clear hg hp0
            go_wp2_with fail
            have HG4 : Hid (w.grownBy w1.drew none) := Lib.hid (grownBy_drewN HG1.out 1)
            have HB4 : Hid (Bk w1.drew w.heap.size 24 p.cells) := Lib.hid (HB1.out.drewN 1)
            go_region_held3 (fun w' => ∀ o, w'.cell? ⟨w.heap.size, o, none⟩ = (#[.int .u64 p.P, .int .u64 p.Q, .int .u64 p.G, .int .u64 p.H, .int .i64 p.Nodes, .int .i64 p.N, .int .i64 p.T, .int .i64 p.K, .int .i64 p.D, .int .i64 p.R, .int .i64 p.M, .int .i64 p.X] : Array Value)[o]?) (first | assumption | exact rule_alloc (by assumption) (by assumption) _ | go_keep) (first
              | (go_at_call 35; (with_reducible refine (HS.out _).mono ?_); rintro e' w' ⟨rfl, hg⟩; have HGx := hidTrans hg (by assumption); have HBx := bkGrown hg (by assumption); have hpx := HBx.out.prule; have hsx := HBx.out.lt; clear hg))
            go_wp2_with fail
            refine (H1.out _ HGx.out).mono ?_
            rintro e w3 ⟨v3, rfl, hs3, hg3⟩
            have HG3 := Lib.hid (HGx.out.trans hg3)
            have HV3 := Lib.hid hs3
            clear hs3 hg3
            go_wp2_with fail
            refine (H2.out _ _ HG3.out HV3.out).mono ?_
            rintro e w4 ⟨v4, rfl, hs4, hg4⟩
            have HG4 := Lib.hid (HG3.out.trans hg4)
            have HV4 := Lib.hid hs4
            clear hs4 hg4 HV3
            go_wp2_with fail
            refine (H3.out _ HG4.out).mono ?_
            rintro e w5 ⟨v5, rfl, hs5, hg5⟩
            have HG5 := Lib.hid (HG4.out.trans hg5)
            have HV5 := Lib.hid hs5
            have HV4' := Lib.hid (HV4.out.kept hg5)
            clear hs5 hg5 HV4
            go_wp2_with fail
            refine (H5.out _ _ _ HG5.out _ HV5.out (prsI_length _ _)).mono ?_
            rintro e w6 ⟨v6, rfl, hs6, hg6⟩
            have HG6 := Lib.hid (HG5.out.trans hg6)
            have HV6 := Lib.hid hs6
            have HV4 := Lib.hid (HV4'.out.kept hg6)
            clear hs6 hg6 HV4' HV5
            go_wp2_with fail
            refine (H4.out _ HG6.out).mono ?_
            rintro e w7 ⟨v7, rfl, hs7, hg7⟩
            have HG7 := Lib.hid (HG6.out.trans hg7)
            have HV7 := Lib.hid hs7
            have HV4' := Lib.hid (HV4.out.kept hg7)
            have HV6' := Lib.hid (HV6.out.kept hg7)
            clear hs7 hg7 HV4 HV6
            go_wp2_with fail
            refine (H5.out _ _ _ HG7.out _ HV7.out (prsI_length _ _)).mono ?_
            rintro e w8 ⟨v8, rfl, hs8, hg8⟩
            have HG8 := Lib.hid (HG7.out.trans hg8)
            have HV8 := Lib.hid hs8
            have HV4 := Lib.hid (HV4'.out.kept hg8)
            have HV6 := Lib.hid (HV6'.out.kept hg8)
            clear hs8 hg8 HV4' HV6' HV7
            go_wp2
            refine bodyPost_ret (v := .tuple #[v4, v6, v8, .int .i64 0]) (by simp [results, Tryd.results18, go_sem]) rfl ?_
            rw [HE0.out, HEM.out, HEA.out, HEB.out]
            exact ⟨_, _, _, rfl, HV4.out, HV6.out, HV8.out, HG8.out⟩
        · obtain ⟨ga, oa, eA, _, _⟩ := H.out.addr (by omega)
          subst eA
          have HS1 : Hid (Sl encU X w (.slice (some ⟨ga, oa, none⟩) F c) (l.take F)) := Lib.hid (H.out.take F (by omega))
          clear hd0
          by_cases hcF : F = c
          · obtain rfl : M = 0 := by omega
            subst hcF
            have e3' : 2 * (q : Int) * (kk : Int) = 0 := e3
            clear e3 bM
            have HS2 : Hid (Sl encU X w (.slice (some ⟨ga, oa, none⟩) 0 0) ((l.drop F).take 0)) := Lib.hid (by rw [List.take_zero]; exact Sl.empty _ _ _ _ _ (by omega))
            have HS3 : Hid (Sl encU X w (.slice (some ⟨ga, oa, none⟩) (l.length - F) 0) (l.drop (F + 0))) := Lib.hid (by rw [List.drop_eq_nil_of_le (by omega), show l.length - F = 0 by omega]; exact Sl.empty _ _ _ _ _ (by omega))
            have H1 := Lib.hid (fun (w' : World) (hw : w.grownBy w' none) => cutU_any _ (l.take F) t qt X (fun g => w.heap.size ≤ g) w' (HS1.out.kept hw) t1 (by rw [List.length_take, ← hF]; omega) (by rw [List.length_take]; omega) (fun g h => Nat.le_trans hw.size h) (fun _ _ _ h => h))
            have H2 := Lib.hid (fun (v : Value) (w' : World) (hw : w.grownBy w' none) (hv : Sl (encW encU) (fun g => w.heap.size ≤ g) w' v (chk t (l.take F) qt)) => cutR_any v _ t q _ (fun g => w.heap.size ≤ g) w' hv t1 (by rw [chk_length, hqt]) (by rw [chk_length]; omega) (fun g h => Nat.le_trans hw.size h) (fun _ _ _ h => h))
            have H3 := Lib.hid (fun (w' : World) (hw : w.grownBy w' none) => paired_any _ ((l.drop F).take 0) (q * kk) X w' (HS2.out.kept hw) (by rw [List.length_take, ← hMq]; simp) (by rw [List.length_take, List.length_drop]; omega))
            have H4 := Lib.hid (fun (w' : World) (hw : w.grownBy w' none) => paired_any _ (l.drop (F + 0)) (q * kk) X w' (HS3.out.kept hw) (by rw [List.length_drop, ← hMq]; omega) (by rw [List.length_drop]; omega))
            have H5 := Lib.hid (fun (v : Value) (ps : List (Int × Int)) (w' : World) (hw : w.grownBy w' none) (Z : Nat → Prop) (hv : Sl encP Z w' v ps) (hps : ps.length = q * kk) => lists_any v ps q kk Z (fun g => w.heap.size ≤ g) w' hv hps (by omega) (by omega) (fun g h => Nat.le_trans hw.size h))
            have hd : ((l.length : Int) != (F : Int)) = false := by simpa using hl
            have i1 : (F : Int) ≤ (l.length : Int) := by omega
            have i2 : (F : Int) + (0 : Int) ≤ (l.length : Int) := by omega
            have i3 : (l.length : Int) ≤ (F : Int) := by omega
            have i4 : (F : Int) + 2 * (0 : Int) ≤ (F : Int) := by omega
            have HMM := Lib.hid hMq
            clear hs hl hq ht hqt hF hM HC4 ht1 hq1 hll hMq hz hlc
            go_enter Tryd.func18, Tryd.ntmps18
            go_wp2_with fail
            refine (HC.out _).mono ?_
            rintro e w1 ⟨rfl, hg⟩
            have HG1 := hidTrans hg HG0
            have HB1 := bkGrown hg HB0
            have hp1 := HB1.out.prule
            have hs1 := HB1.out.lt
            clear hg hp0
            go_wp2_with fail
            have HG4 : Hid (w.grownBy w1.drew none) := Lib.hid (grownBy_drewN HG1.out 1)
            have HB4 : Hid (Bk w1.drew w.heap.size 24 p.cells) := Lib.hid (HB1.out.drewN 1)
            go_region_held3 (fun w' => ∀ o, w'.cell? ⟨w.heap.size, o, none⟩ = (#[.int .u64 p.P, .int .u64 p.Q, .int .u64 p.G, .int .u64 p.H, .int .i64 p.Nodes, .int .i64 p.N, .int .i64 p.T, .int .i64 p.K, .int .i64 p.D, .int .i64 p.R, .int .i64 p.M, .int .i64 p.X] : Array Value)[o]?) (first | assumption | exact rule_alloc (by assumption) (by assumption) _ | go_keep) (first
              | (go_at_call 35; (with_reducible refine (HS.out _).mono ?_); rintro e' w' ⟨rfl, hg⟩; have HGx := hidTrans hg (by assumption); have HBx := bkGrown hg (by assumption); have hpx := HBx.out.prule; have hsx := HBx.out.lt; clear hg))
            go_wp2_with fail
            refine (H1.out _ HGx.out).mono ?_
            rintro e w3 ⟨v3, rfl, hs3, hg3⟩
            have HG3 := Lib.hid (HGx.out.trans hg3)
            have HV3 := Lib.hid hs3
            clear hs3 hg3
            go_wp2_with fail
            refine (H2.out _ _ HG3.out HV3.out).mono ?_
            rintro e w4 ⟨v4, rfl, hs4, hg4⟩
            have HG4 := Lib.hid (HG3.out.trans hg4)
            have HV4 := Lib.hid hs4
            clear hs4 hg4 HV3
            go_wp2_with fail
            refine (H3.out _ HG4.out).mono ?_
            rintro e w5 ⟨v5, rfl, hs5, hg5⟩
            have HG5 := Lib.hid (HG4.out.trans hg5)
            have HV5 := Lib.hid hs5
            have HV4' := Lib.hid (HV4.out.kept hg5)
            clear hs5 hg5 HV4
            go_wp2_with fail
            refine (H5.out _ _ _ HG5.out _ HV5.out (prsI_length _ _)).mono ?_
            rintro e w6 ⟨v6, rfl, hs6, hg6⟩
            have HG6 := Lib.hid (HG5.out.trans hg6)
            have HV6 := Lib.hid hs6
            have HV4 := Lib.hid (HV4'.out.kept hg6)
            clear hs6 hg6 HV4' HV5
            go_wp2_with fail
            refine (H4.out _ HG6.out).mono ?_
            rintro e w7 ⟨v7, rfl, hs7, hg7⟩
            have HG7 := Lib.hid (HG6.out.trans hg7)
            have HV7 := Lib.hid hs7
            have HV4' := Lib.hid (HV4.out.kept hg7)
            have HV6' := Lib.hid (HV6.out.kept hg7)
            clear hs7 hg7 HV4 HV6
            go_wp2_with fail
            refine (H5.out _ _ _ HG7.out _ HV7.out (prsI_length _ _)).mono ?_
            rintro e w8 ⟨v8, rfl, hs8, hg8⟩
            have HG8 := Lib.hid (HG7.out.trans hg8)
            have HV8 := Lib.hid hs8
            have HV4 := Lib.hid (HV4'.out.kept hg8)
            have HV6 := Lib.hid (HV6'.out.kept hg8)
            clear hs8 hg8 HV4' HV6' HV7
            go_wp2
            refine bodyPost_ret (v := .tuple #[v4, v6, v8, .int .i64 0]) (by simp [results, Tryd.results18, go_sem]) rfl ?_
            rw [HE0.out, HEM.out, HEA.out, HEB.out]
            exact ⟨_, _, _, rfl, HV4.out, HV6.out, HV8.out, HG8.out⟩
          · have hcF' : ¬ c = F := fun e => hcF e.symm
            have x1 : ¬ c = F := hcF'
            have x2 : ¬ c = F + M := by omega
            clear hcF
            have HS2 : Hid (Sl encU X w (.slice (some ⟨ga, oa + F, none⟩) M (c - F)) ((l.drop F).take M)) := Lib.hid (by
              have := (H.out.drop F (by omega)).take M (by rw [List.length_drop]; omega)
              rwa [show F * encU.size = F from Nat.mul_one F] at this)
            have HS3 : Hid (Sl encU X w (.slice (some ⟨ga, oa + (F + M), none⟩) (l.length - (F + M)) (c - (F + M))) (l.drop (F + M))) := Lib.hid (by
              have := H.out.drop (F + M) (by omega)
              rwa [show (F + M) * encU.size = F + M from Nat.mul_one (F + M)] at this)
            have H1 := Lib.hid (fun (w' : World) (hw : w.grownBy w' none) => cutU_any _ (l.take F) t qt X (fun g => w.heap.size ≤ g) w' (HS1.out.kept hw) t1 (by rw [List.length_take, ← hF]; omega) (by rw [List.length_take]; omega) (fun g h => Nat.le_trans hw.size h) (fun _ _ _ h => h))
            have H2 := Lib.hid (fun (v : Value) (w' : World) (hw : w.grownBy w' none) (hv : Sl (encW encU) (fun g => w.heap.size ≤ g) w' v (chk t (l.take F) qt)) => cutR_any v _ t q _ (fun g => w.heap.size ≤ g) w' hv t1 (by rw [chk_length, hqt]) (by rw [chk_length]; omega) (fun g h => Nat.le_trans hw.size h) (fun _ _ _ h => h))
            have H3 := Lib.hid (fun (w' : World) (hw : w.grownBy w' none) => paired_any _ ((l.drop F).take M) (q * kk) X w' (HS2.out.kept hw) (by rw [List.length_take, List.length_drop, ← hMq]; omega) (by rw [List.length_take, List.length_drop]; omega))
            have H4 := Lib.hid (fun (w' : World) (hw : w.grownBy w' none) => paired_any _ (l.drop (F + M)) (q * kk) X w' (HS3.out.kept hw) (by rw [List.length_drop, ← hMq]; omega) (by rw [List.length_drop]; omega))
            have H5 := Lib.hid (fun (v : Value) (ps : List (Int × Int)) (w' : World) (hw : w.grownBy w' none) (Z : Nat → Prop) (hv : Sl encP Z w' v ps) (hps : ps.length = q * kk) => lists_any v ps q kk Z (fun g => w.heap.size ≤ g) w' hv hps (by omega) (by omega) (fun g h => Nat.le_trans hw.size h))
            have hd : ((l.length : Int) != (F : Int) + 2 * (M : Int)) = false := by simpa using hl
            have i1 : (F : Int) ≤ (l.length : Int) := by omega
            have i2 : (F : Int) + (M : Int) ≤ (l.length : Int) := by omega
            have i3 : (l.length : Int) ≤ (c : Int) := by omega
            have i4 : (F : Int) + 2 * (M : Int) ≤ (c : Int) := by omega
            have HMM := Lib.hid hMq
            clear hs hl hq ht hqt hF hM HC4 ht1 hq1 hll hMq hz hlc
            go_enter Tryd.func18, Tryd.ntmps18
            go_wp2_with fail
            refine (HC.out _).mono ?_
            rintro e w1 ⟨rfl, hg⟩
            have HG1 := hidTrans hg HG0
            have HB1 := bkGrown hg HB0
            have hp1 := HB1.out.prule
            have hs1 := HB1.out.lt
            clear hg hp0
            go_wp2_with fail
            have HG4 : Hid (w.grownBy w1.drew none) := Lib.hid (grownBy_drewN HG1.out 1)
            have HB4 : Hid (Bk w1.drew w.heap.size 24 p.cells) := Lib.hid (HB1.out.drewN 1)
            go_region_held3 (fun w' => ∀ o, w'.cell? ⟨w.heap.size, o, none⟩ = (#[.int .u64 p.P, .int .u64 p.Q, .int .u64 p.G, .int .u64 p.H, .int .i64 p.Nodes, .int .i64 p.N, .int .i64 p.T, .int .i64 p.K, .int .i64 p.D, .int .i64 p.R, .int .i64 p.M, .int .i64 p.X] : Array Value)[o]?) (first | assumption | exact rule_alloc (by assumption) (by assumption) _ | go_keep) (first
              | (go_at_call 35; (with_reducible refine (HS.out _).mono ?_); rintro e' w' ⟨rfl, hg⟩; have HGx := hidTrans hg (by assumption); have HBx := bkGrown hg (by assumption); have hpx := HBx.out.prule; have hsx := HBx.out.lt; clear hg))
            go_wp2_with fail
            refine (H1.out _ HGx.out).mono ?_
            rintro e w3 ⟨v3, rfl, hs3, hg3⟩
            have HG3 := Lib.hid (HGx.out.trans hg3)
            have HV3 := Lib.hid hs3
            clear hs3 hg3
            go_wp2_with fail
            refine (H2.out _ _ HG3.out HV3.out).mono ?_
            rintro e w4 ⟨v4, rfl, hs4, hg4⟩
            have HG4 := Lib.hid (HG3.out.trans hg4)
            have HV4 := Lib.hid hs4
            clear hs4 hg4 HV3
            go_wp2_with fail
            refine (H3.out _ HG4.out).mono ?_
            rintro e w5 ⟨v5, rfl, hs5, hg5⟩
            have HG5 := Lib.hid (HG4.out.trans hg5)
            have HV5 := Lib.hid hs5
            have HV4' := Lib.hid (HV4.out.kept hg5)
            clear hs5 hg5 HV4
            go_wp2_with fail
            refine (H5.out _ _ _ HG5.out _ HV5.out (prsI_length _ _)).mono ?_
            rintro e w6 ⟨v6, rfl, hs6, hg6⟩
            have HG6 := Lib.hid (HG5.out.trans hg6)
            have HV6 := Lib.hid hs6
            have HV4 := Lib.hid (HV4'.out.kept hg6)
            clear hs6 hg6 HV4' HV5
            go_wp2_with fail
            refine (H4.out _ HG6.out).mono ?_
            rintro e w7 ⟨v7, rfl, hs7, hg7⟩
            have HG7 := Lib.hid (HG6.out.trans hg7)
            have HV7 := Lib.hid hs7
            have HV4' := Lib.hid (HV4.out.kept hg7)
            have HV6' := Lib.hid (HV6.out.kept hg7)
            clear hs7 hg7 HV4 HV6
            go_wp2_with fail
            refine (H5.out _ _ _ HG7.out _ HV7.out (prsI_length _ _)).mono ?_
            rintro e w8 ⟨v8, rfl, hs8, hg8⟩
            have HG8 := Lib.hid (HG7.out.trans hg8)
            have HV8 := Lib.hid hs8
            have HV4 := Lib.hid (HV4'.out.kept hg8)
            have HV6 := Lib.hid (HV6'.out.kept hg8)
            clear hs8 hg8 HV4' HV6' HV7
            go_wp2
            refine bodyPost_ret (v := .tuple #[v4, v6, v8, .int .i64 0]) (by simp [results, Tryd.results18, go_sem]) rfl ?_
            rw [HE0.out, HEM.out, HEA.out, HEB.out]
            exact ⟨_, _, _, rfl, HV4.out, HV6.out, HV8.out, HG8.out⟩
      · have HC5 : opnE p l.length (kk : Int) = 4 := by rw [HC4, if_neg hl]
        have HEM : Hid (opnE p l.length (kk : Int) = 4 ∧ opnM p l kk = [] ∧ opnA p l kk = [] ∧ opnB p l kk = []) := Lib.hid (by simp [opnM, opnA, opnB, HC5])
        have hd : ((l.length : Int) != (F : Int) + 2 * (M : Int)) = true := by simpa using hl
        clear hs hl hq ht hqt hF hM HC4 HC5 ht1 hq1 hlc
        go_enter Tryd.func18, Tryd.ntmps18
        go_wp2_with fail
        refine (HC.out _).mono ?_
        rintro e w1 ⟨rfl, hg⟩
        have HG1 := hidTrans hg HG0
        have HB1 := bkGrown hg HB0
        have hp1 := HB1.out.prule
        have hs1 := HB1.out.lt
        clear hg hp0
        go_wp2_with fail
        have HG4 : Hid (w.grownBy w1.drew none) := Lib.hid (grownBy_drewN HG1.out 1)
        have HB4 : Hid (Bk w1.drew w.heap.size 24 p.cells) := Lib.hid (HB1.out.drewN 1)
        go_region_held3 (fun w' => ∀ o, w'.cell? ⟨w.heap.size, o, none⟩ = (#[.int .u64 p.P, .int .u64 p.Q, .int .u64 p.G, .int .u64 p.H, .int .i64 p.Nodes, .int .i64 p.N, .int .i64 p.T, .int .i64 p.K, .int .i64 p.D, .int .i64 p.R, .int .i64 p.M, .int .i64 p.X] : Array Value)[o]?) (first | assumption | exact rule_alloc (by assumption) (by assumption) _ | go_keep) (first
          | (go_at_call 35; (with_reducible refine (HS.out _).mono ?_); rintro e' w' ⟨rfl, hg⟩; have HGx := hidTrans hg (by assumption); have HBx := bkGrown hg (by assumption); have hpx := HBx.out.prule; have hsx := HBx.out.lt; clear hg))
        go_wp2
        refine bodyPost_ret (v := .tuple #[.slice none 0 0, .slice none 0 0, .slice none 0 0, .int .i64 4]) (by simp [results, Tryd.results18, go_sem]) rfl ?_
        rw [HEM.out.1, HEM.out.2.1, HEM.out.2.2.1, HEM.out.2.2.2]
        exact ⟨_, _, _, rfl, Sl.nil _ _ _, Sl.nil _ _ _, Sl.nil _ _ _, HGx.out⟩
    · have HE : Hid (opnE p l.length k = 1 ∧ opnM p l k = [] ∧ opnA p l k = [] ∧ opnB p l k = []) := Lib.hid (by simp only [opnM, opnA, opnB, opnE]; simp [hs, hk3])
      have hp1 : True := trivial
      clear hs
      by_cases hkn : 0 ≤ k
      · have hkx : 3 < k := by omega
        clear hk3
        go_enter Tryd.func18, Tryd.ntmps18
        go_wp2_with fail
        refine (HC.out _).mono ?_
        rintro e w1 ⟨rfl, hg⟩
        have HG := hidTrans hg HG0
        clear hg
        go_wp2
        refine bodyPost_ret (v := .tuple #[.slice none 0 0, .slice none 0 0, .slice none 0 0, .int .i64 1]) (by simp [results, Tryd.results18, go_sem]) rfl ?_
        rw [HE.out.1, HE.out.2.1, HE.out.2.2.1, HE.out.2.2.2]
        exact ⟨_, _, _, rfl, Sl.nil _ _ _, Sl.nil _ _ _, Sl.nil _ _ _, HG.out⟩
      · have hkx : k < 0 := by omega
        clear hk3 hkn
        go_enter Tryd.func18, Tryd.ntmps18
        go_wp2_with fail
        refine (HC.out _).mono ?_
        rintro e w1 ⟨rfl, hg⟩
        have HG := hidTrans hg HG0
        clear hg
        go_wp2
        refine bodyPost_ret (v := .tuple #[.slice none 0 0, .slice none 0 0, .slice none 0 0, .int .i64 1]) (by simp [results, Tryd.results18, go_sem]) rfl ?_
        rw [HE.out.1, HE.out.2.1, HE.out.2.2.1, HE.out.2.2.2]
        exact ⟨_, _, _, rfl, Sl.nil _ _ _, Sl.nil _ _ _, Sl.nil _ _ _, HG.out⟩
end Go.Proofs.YtonkbmknanpchaaDoor

namespace Go.Proofs.YtonkbmknanpchaaDoor
open Go Go.RowKit

theorem pairsOne_any (x : Int × Int) (w : World) (hx : U64 x.1 ∧ U64 x.2) :
    Calls Tryd.prog 51 #[.agg #[.int .u64 x.1, .int .u64 x.2]] w (Gives encU (fun g => w.heap.size ≤ g) w [x.1, x.2]) := by
  have HX := Lib.hid hx
  have HS : Hid (Sl encU (fun g => w.heap.size ≤ g) ((w.alloc (Obj.cells #[.int .u64 x.1, .int .u64 x.2] 44)).alloc (.cells #[.int .u64 x.1, .int .u64 x.2] 22)) (.slice (some ⟨w.heap.size + 1, 0, none⟩) 2 2) [x.1, x.2]) := Lib.hid (by
    have h := Bk.new (w.alloc (Obj.cells #[.int .u64 x.1, .int .u64 x.2] 44)) 22 #[.int .u64 x.1, .int .u64 x.2]
    rw [World.size_alloc] at h
    exact Sl.block (xs := [x.1, x.2]) h (by omega) [[.int .u64 x.1], [.int .u64 x.2]] rfl (fun i hi hi' => by
      match i, hi with
      | 0, _ => exact ⟨rfl, HX.out.1⟩
      | 1, _ => exact ⟨rfl, HX.out.2⟩) rfl (Nat.le_refl _) (by decide))
  obtain ⟨a, b⟩ := x
  clear hx
  go_enter Tryd.func51, Tryd.ntmps51
  go_wp2
  go_ret
  exact ⟨_, rfl, HS.out, grown_two⟩
set_option maxHeartbeats 1000000 in
theorem eachPairs_any (v : Value) (l : List (Int × Int)) (X : Nat → Prop) (w : World) (h : Sl encP X w v l) (hb : l.length ≤ 1000) :
    Calls Tryd.prog 50 #[v, .func (.func 51) #[] #[]] w (Gives (encS encU) (fun g => w.heap.size ≤ g) w (l.map fun x => [x.1, x.2])) := by
  have H := Lib.hid h
  have HB := Lib.hid hb
  obtain ⟨A, c, rfl, hc1, hc2⟩ := h.form
  clear h hb
  go_enter Tryd.func50, Tryd.ntmps50
  go_wp2_with fail
  go_loopg [5, 10] l.length (fun g s5 s10 wx => ∃ j : Nat, j + g = l.length ∧ s10 = .int .i64 j ∧ Hid (Acc (encS encU) w.heap.size 25 (fun g => w.heap.size ≤ g) wx s5 ((l.take j).map fun x => [x.1, x.2]) ∧ w.grownBy wx none))
  case atStart => exact ⟨0, by omega, rfl, Lib.hid ⟨Acc.nil _ _ _ _ _, World.grownBy.refl _ none⟩⟩
  case round =>
    obtain ⟨j, hj, rfl, HX⟩ := hrel
    cases gk with
    | zero =>
      obtain rfl : j = l.length := by omega
      have HR : Hid (Sl (encS encU) (fun g => w.heap.size ≤ g) wr u5 (l.map fun x => [x.1, x.2]) ∧ w.grownBy wr none) := Lib.hid ⟨by have := HX.out.1.sl; rwa [List.take_length] at this, HX.out.2⟩
      clear HX
      go_wp2
      go_ret
      exact ⟨_, rfl, HR.out.1, HR.out.2⟩
    | succ m =>
      have hjn : (j : Int) < (l.length : Int) := by omega
      have hjN : j < l.length := by omega
      obtain ⟨hacc, hg⟩ := HX.out
      obtain ⟨g, o, c', e, _, _, hc0, hc1', hu1, hu2⟩ := (H.out.kept hg).atP hjN
      injection e with e1 e2 e3
      subst e1 e3
      have HSN : Hid ((l.take (j + 1)).map (fun x => [x.1, x.2]) = (l.take j).map (fun x => [x.1, x.2]) ++ [[l[j].1, l[j].2]]) := Lib.hid (by rw [List.take_succ_eq_append_getElem hjN, List.map_append]; rfl)
      have HU := Lib.hid (And.intro hu1 hu2)
      have HAC := Lib.hid hacc
      have HG := Lib.hid hg
      have HLB : Hid ((((l.take j).map fun x => [x.1, x.2]).length + 1) * 24 ≤ 140737488355328) := Lib.hid (by have := HB.out; simp; omega)
      obtain ⟨y, hy⟩ : ∃ y, y = l[j] := ⟨_, rfl⟩
      rw [← hy] at HSN HU hc0 hc1'
      obtain ⟨wa, hwa⟩ : ∃ y2, y2 = wr.alloc (Obj.cells #[.int .u64 y.1, .int .u64 y.2] 44) := ⟨_, rfl⟩
      have HGA : Hid (wr.grownBy wa none) := Lib.hid (by rw [hwa]; exact World.grownBy_alloc _ _ none)
      have hbx : Bk wa wr.heap.size 44 #[.int .u64 y.1, .int .u64 y.2] := by rw [hwa]; exact Bk.new _ _ _
      have HC := Lib.hid (pairsOne_any y wa HU.out)
      obtain ⟨ya, yb⟩ := y
      simp only at hc0 hc1' HC HSN hwa hbx
      have d0 := hbx.cell 0
      have d1 := hbx.cell 1
      simp at d0 d1
      clear hacc hg HX hu1 hu2 e2 hy hbx
      generalize l.length = n at *
      go_wp2_with fail
      rw [← hwa]
      clear hwa
      refine HC.out.mono ?_
      rintro e w1 ⟨v1, rfl, hs1, hg1⟩
      obtain ⟨A1, c1, e1, _, _⟩ := hs1.form
      subst e1
      have HG1 : Hid (w.grownBy w1 none) := Lib.hid (HG.out.trans (HGA.out.trans hg1))
      have HAC1 := Lib.hid (HAC.out.kept (HGA.out.trans hg1))
      have HREP : Hid ((encS encU).rep (fun g => w.heap.size ≤ g ∧ some g ≠ u5.ownBlock) w1 [.slice A1 2 c1] [ya, yb]) := Lib.hid ⟨_, rfl, hs1.more fun g _ h => ⟨Nat.le_trans (HG.out.trans HGA.out).size h, fun e => by have h1 := (HAC.out.lt g e.symm).2; have h2 := HGA.out.size; omega⟩⟩
      clear hs1 hg1 d0 d1 hc0 hc1'
      go_wp2_with (at_builtin; refine wpList_pushG rfl (.tmp 14) (.tmp 18) rfl (E := encS encU) (y := [ya, yb]) el_nums HG1.out HAC1.out (fun _ h => h) HREP.out HLB.out rfl rfl ?_)
      intro v2 w2 hacc2 hg2 hgo
      have HFIN : Hid (Acc (encS encU) w.heap.size 25 (fun g => w.heap.size ≤ g) w2 v2 ((l.take (j + 1)).map fun x => [x.1, x.2]) ∧ w.grownBy w2 none) := Lib.hid ⟨by rw [HSN.out]; simpa using hacc2, hg2⟩
      clear hacc2 hg2 hgo
      go_wp2_with fail
      go_roundg m
      case measure => omega
      case rel => exact ⟨j + 1, by omega, by go_num, HFIN⟩
set_option maxHeartbeats 1000000 in
theorem flatU_any (v : Value) (ls : List (List Int)) (X : Nat → Prop) (w : World) (h : Sl (encS encU) X w v ls) (hb : ls.length ≤ 1000) (hb2 : ∀ x ∈ ls, x.length ≤ 1000) :
    Calls Tryd.prog 49 #[v] w (Gives encU (fun g => w.heap.size ≤ g) w ls.flatten) := by
  have H := Lib.hid h
  have HB2 := Lib.hid hb2
  have HB := Lib.hid hb
  obtain ⟨A, c, rfl, hc1, hc2⟩ := h.form
  have HLN : Hid (∀ j, (ls.take j).flatten.length ≤ j * 1000) := Lib.hid (fun j => by
    induction j with
    | zero => simp
    | succ j ih =>
      rcases Nat.lt_or_ge j ls.length with h | h
      · rw [List.take_succ_eq_append_getElem h, List.flatten_append, List.length_append]
        have h1 := hb2 _ (List.getElem_mem h)
        have h2 : [ls[j]].flatten.length = ls[j].length := by simp
        rw [h2, Nat.add_mul]
        exact Nat.add_le_add ih (by rw [Nat.one_mul]; exact h1)
      · rw [List.take_of_length_le (show ls.length ≤ j + 1 from Nat.le_succ_of_le h)]
        rw [List.take_of_length_le h] at ih
        exact Nat.le_trans ih (Nat.mul_le_mul_right _ (Nat.le_succ j)))
  clear h hb hb2
  go_enter Tryd.func49, Tryd.ntmps49
  go_wp2_with fail
  go_loopg [3, 8] ls.length (fun g s3 s8 wx => ∃ j : Nat, j + g = ls.length ∧ s8 = .int .i64 j ∧ Hid (Acc encU w.heap.size 22 (fun g => w.heap.size ≤ g) wx s3 (ls.take j).flatten ∧ w.grownBy wx none))
  case atStart => exact ⟨0, by omega, rfl, Lib.hid ⟨Acc.nil _ _ _ _ _, World.grownBy.refl _ none⟩⟩
  case round =>
    obtain ⟨j, hj, rfl, HX⟩ := hrel
    cases gk with
    | zero =>
      obtain rfl : j = ls.length := by omega
      have HR : Hid (Sl encU (fun g => w.heap.size ≤ g) wr u3 ls.flatten ∧ w.grownBy wr none) := Lib.hid ⟨by have := HX.out.1.sl; rwa [List.take_length] at this, HX.out.2⟩
      clear HX
      go_wp2
      go_ret
      exact ⟨_, rfl, HR.out.1, HR.out.2⟩
    | succ m =>
      have hjn : (j : Int) < (ls.length : Int) := by omega
      have hjN : j < ls.length := by omega
      obtain ⟨hacc, hg⟩ := HX.out
      obtain ⟨g, o, c', u, e, _, _, hcu, hu⟩ := (H.out.kept hg).atS hjN
      injection e with e1 e2 e3
      subst e1 e3
      have HSN : Hid ((ls.take (j + 1)).flatten = (ls.take j).flatten ++ ls[j]) := Lib.hid (by rw [List.take_succ_eq_append_getElem hjN, List.flatten_append]; simp)
      have HAC := Lib.hid hacc
      have HG := Lib.hid hg
      obtain ⟨A1, c1, e1, _, _⟩ := hu.form
      have HLB : Hid (((ls.take j).flatten.length + ls[j].length) * 8 ≤ 140737488355328) := Lib.hid (by have h1 := HLN.out j; have h2 := HB.out; have h3 := HB2.out _ (List.getElem_mem hjN); omega)
      have HSZ : Hid (w.heap.size ≤ wr.heap.size) := Lib.hid hg.size
      have HU := Lib.hid hu
      clear hacc hg HX hu e2
      obtain ⟨y, hy⟩ : ∃ y, y = ls[j] := ⟨_, rfl⟩
      rw [← hy] at e1 HSN HLB HU
      clear hy
      obtain ⟨ny, hny⟩ : ∃ y2, y2 = y.length := ⟨_, rfl⟩
      rw [← hny] at e1
      subst e1
      clear hny
      go_wp2_with (at_builtin; refine wpList_apps rfl (.tmp 12) (.tmp 13) rfl (E := encU) el_u64 HAC.out rfl rfl HU.out (fun _ _ h => h) HLB.out HSZ.out (fun _ h => Nat.le_trans HSZ.out h) ?_)
      intro v2 w2 hacc2 hg2 hm2
      have HFIN : Hid (Acc encU w.heap.size 22 (fun g => w.heap.size ≤ g) w2 v2 (ls.take (j + 1)).flatten ∧ w.grownBy w2 none) := Lib.hid ⟨by rw [HSN.out]; exact hacc2, grown_up HG.out hg2 (fun k e => (HAC.out.lt k e).1)⟩
      clear hacc2 hg2 hm2
      go_wp2_with fail
      go_roundg m
      case measure => omega
      case rel => exact ⟨j + 1, by omega, by go_num, HFIN⟩
theorem dpairs_any (v : Value) (l : List (Int × Int)) (X : Nat → Prop) (w : World) (h : Sl encP X w v l) (hb : l.length ≤ 1000) :
    Calls Tryd.prog 17 #[v] w (Gives encU (fun g => w.heap.size ≤ g) w (l.map fun x => [x.1, x.2]).flatten) := by
  have HE := Lib.hid (eachPairs_any v l X w h hb)
  have HF := Lib.hid (fun u Y w' (hs : Sl (encS encU) Y w' u (l.map fun x => [x.1, x.2])) => flatU_any u _ Y w' hs (by simpa using hb) (fun x hx => by obtain ⟨y, _, rfl⟩ := List.mem_map.1 hx; simp))
  obtain ⟨A, c, rfl, _, _⟩ := h.form
  clear h
  go_enter Tryd.func17, Tryd.ntmps17
  go_wp2_with fail
  refine HE.out.mono ?_
  rintro e w1 ⟨v1, rfl, hs1, hg1⟩
  have HG1 := Lib.hid hg1
  have HS1 := Lib.hid hs1
  clear hs1 hg1
  go_wp2_with fail
  refine (HF.out _ _ _ HS1.out).mono ?_
  rintro e w2 ⟨v2, rfl, hs2, hg2⟩
  have HR : Hid (Sl encU (fun g => w.heap.size ≤ g) w2 v2 (l.map fun x => [x.1, x.2]).flatten ∧ w.grownBy w2 none) := Lib.hid ⟨hs2.more fun g _ h => Nat.le_trans HG1.out.size h, HG1.out.trans hg2⟩
  clear hs2 hg2
  go_wp2
  go_ret
  exact ⟨_, rfl, HR.out⟩
end Go.Proofs.YtonkbmknanpchaaDoor

namespace Go.Proofs.YtonkbmknanpchaaDoor
open Go

section
variable {P : Program} {Q : Exit → Act → World → Prop} {a0 : Act} {w0 : World}
def upTo (k m : Nat) : Array Bool := Array.replicate k true ++ Array.replicate (m - k) false
theorem upTo_at {k m i : Nat} (hk : k ≤ m) (d : Bool) : (upTo k m).getD i d = if i < k then true else if i < m then false else d := by
  unfold upTo
  rw [Array.getD_eq_getD_getElem?, Array.getElem?_append]
  by_cases h1 : i < k
  · simp [h1]
  · by_cases h2 : i < m
    · simp [h1, h2, show i - k < m - k by omega]
    · simp [h1, h2, show ¬ i - k < m - k by omega]
theorem upTo_set {k m : Nat} (hk : k < m) : (upTo k m).setIfInBounds k true = upTo (k + 1) m := by
  refine Array.ext (by simp [upTo]; omega) fun i h1 h2 => ?_
  have e1 := upTo_at (k := k + 1) (m := m) (i := i) (by omega) false
  have e2 := upTo_at (k := k) (m := m) (i := i) (by omega) false
  have h3 : i < (upTo k m).size := by simpa using h1
  rw [Array.getElem_setIfInBounds h3]
  rw [Array.getD_eq_getD_getElem?, Array.getElem?_eq_getElem h2] at e1
  rw [Array.getD_eq_getD_getElem?, Array.getElem?_eq_getElem h3] at e2
  simp only [Option.getD_some] at e1 e2
  rw [e1]
  split
  · rename_i h
    subst h
    simp
  · rename_i h
    rw [e2]
    by_cases h4 : i < k
    · simp [h4, show i < k + 1 by omega]
    · simp [h4, show ¬ i < k + 1 by omega]
def seqmB (ops : Array Oper) (n sz : Nat) : Bool := Region.noSelect ops && decide (n ≤ ops.size) && topoB ops n && distB ops n sz
theorem wpList_monoR {l : List Oper} (n : Nat) (hB : seqmB l.toArray n a0.tmps.size = true)
    (h : MonoR P l.toArray n a0 w0 (fun Vs => ∀ w, w0.grownBy w none → FinN P l.toArray Q w Vs l a0) n [] l) : wpList P l.toArray Q l a0 w0 := by
  obtain ⟨hM', hn'⟩ := MonoN.cut (MonoR.up h)
  simp only [seqmB, Bool.and_eq_true, decide_eq_true_eq] at hB
  obtain ⟨⟨⟨hsel, hn⟩, htopo⟩, hdist⟩ := hB
  obtain ⟨Vs, hVl, hF, hO⟩ := Mono.out hM'
  simp only [List.reverse_nil, List.nil_append, List.length_nil, Nat.zero_add] at hF hO
  have htl : (l.take n).length = n := by simp; omega
  have hVn : Vs.length = n := hVl.trans htl
  have hsz : l.toArray.size = l.length := by simp
  have key : ∀ m k a w, k + m = n → MInv l.toArray n a0 w0 Vs (upTo k l.toArray.size) a w → wpList P l.toArray Q (l.drop k) a w := by
    intro m
    induction m with
    | zero =>
      intro k a w hk inv
      obtain rfl : k = n := by omega
      have hk : ∀ (q : Nat) (V : Pv) (o : Oper), Vs[q]? = some V → (l.take k)[q]? = some o → V.p (match o.dst with | some d => a.eval (.tmp d) | none => undef) w := by
        intro q V o hv ho
        have hqn : q < k := by have := (List.getElem?_eq_some_iff.1 hv).1; omega
        have h1 := inv.known q V (by rw [upTo_at hn]; simp [hqn]) hv
        have h2 : dstAt l.toArray q = o.dst := by
          have : l[q]? = some o := by rw [List.getElem?_take, if_pos hqn] at ho; exact ho
          simp [dstAt, this]
        rw [h2] at h1
        have h3 : (match o.dst with | some d => a.eval (.tmp d) | none => undef) = valOf o.dst a := by cases o.dst <;> rfl
        rw [h3]
        exact h1
      have hcut := FinN.cut (by rw [hVn]; omega) (hF w inv.grown)
      rw [hVn] at hcut
      have hfin := Fin'.all hVl hk hcut
      have hon : onto a ((l.take k).map (·.dst)) a0 = a := by
        refine act_ext (fun t => onto_at a t _ _ inv.tsize.symm ?_) ((onto_defers _ _ _).trans inv.defers.symm)
        by_cases ht : some t ∈ (l.take k).map (·.dst)
        · exact .inl ht
        · refine .inr (inv.rest t fun j hj _ e => ht ?_).symm
          have hjl : j < l.length := by omega
          have : l[j].dst = some t := by simpa [dstAt, hjl] using e
          exact List.mem_map.2 ⟨l[j], List.mem_iff_getElem?.2 ⟨j, by rw [List.getElem?_take, if_pos hj, List.getElem?_eq_getElem hjl]⟩, this⟩
      rw [hon] at hfin
      exact hfin
    | succ m ih =>
      intro k a w hk inv
      have hkn : k < n := by omega
      have hkl : k < l.length := by omega
      have ho : l.toArray[k]? = some l[k] := by simp [hkl]
      have hnext : (l.take n)[k]? = some l[k] := by rw [List.getElem?_take, if_pos hkn, List.getElem?_eq_getElem hkl]
      obtain ⟨V, js, hV, hchk, hask⟩ := hO k l[k] hnext
      simp only [Bool.and_eq_true] at hchk
      obtain ⟨hpair, hlook⟩ := hchk
      have hu : (upTo k l.toArray.size).getD k true = false := by rw [upTo_at (by omega)]; simp [hkl]
      have hed : ∀ e ∈ l[k].after, Region.binds .any e = true → (upTo k l.toArray.size).getD e.on false = true := fun e he hb => by
        have ht := list_all_range htopo hkn
        simp only [ho, Option.map_some, Option.getD_some] at ht
        have := Array.all_eq_true_iff_forall_mem.1 ht e he
        rw [upTo_at (by omega)]
        simp only [hb, Bool.not_true, Bool.false_or, decide_eq_true_eq] at this
        simp [this]
      have hi : k ∈ Region.ready .any l.toArray (upTo k l.toArray.size) := mem_ready.2 ⟨hu, _, ho, hed⟩
      have hdst : ∀ d, l[k].dst = some d → d < a.tmps.size := by
        intro d hd
        have := list_all_range hdist hkn
        have h2 : dstAt l.toArray k = some d := by simp only [dstAt, ho]; exact hd
        rw [h2] at this
        simp only [Bool.and_eq_true, decide_eq_true_eq] at this
        rw [inv.tsize]
        exact this.1
      have hjs : ∀ x : Nat × Tmp, x ∈ js → dstAt l.toArray x.1 = some x.2 ∧ (upTo k l.toArray.size).getD x.1 false = true ∧ x.1 < k := by
        intro x hx
        have := List.all_eq_true.1 hpair x hx
        simp only [Bool.and_eq_true, beq_iff_eq] at this
        obtain ⟨oj, hoj, e, he, hb, hon⟩ := Region.waitsFor_spec this.2
        have hoo : l[k] = oj := Option.some.inj (ho.symm.trans hoj)
        subst hoo
        have ht := list_all_range htopo hkn
        simp only [ho, Option.map_some, Option.getD_some] at ht
        have ht := Array.all_eq_true_iff_forall_mem.1 ht e he
        simp only [hb, Bool.not_true, Bool.false_or, decide_eq_true_eq] at ht
        exact ⟨this.1, by rw [← hon]; exact hed e he hb, by rw [← hon]; exact ht⟩
      have hA := hask w inv.grown
      have hW := Ask.all (b := a) (fun x hx => by
        obtain ⟨h1, h2, h3⟩ := hjs x hx
        have hxl : x.1 < Vs.length := by omega
        have h4 : Vs[x.1]? = some Vs[x.1] := List.getElem?_eq_getElem hxl
        have h5 := inv.known x.1 _ h2 h4
        rw [h1] at h5
        have : (Vs.take k).getD x.1 Pv.any = Vs[x.1] := by
          rw [List.getD_eq_getElem?_getD, List.getElem?_take, if_pos h3, h4]
          rfl
        rw [this]
        exact h5) hA
      have hop := told_op (Q := Q) (ops := l.toArray) (a0 := a0) (a := a) (Region.noSelect_spec hsel k l[k] · · ho) hdst ((onto_size _ _ _).trans inv.tsize.symm) (fun t ht => by
        refine onto_at a t _ _ inv.tsize.symm ?_
        have h1 : (l[k].looksAt l.toArray).all (fun t => js.any (·.2 == t) || keptB l.toArray n k t) = true := by
          simpa only [lookB, ho, Option.map_some, Option.getD_some] using hlook
        have h2 := List.all_eq_true.1 h1 t ht
        simp only [Bool.or_eq_true] at h2
        rcases h2 with h2 | h2
        · left
          obtain ⟨x, hx, hxt⟩ := List.any_eq_true.1 h2
          exact List.mem_map.2 ⟨x, hx, by rw [beq_iff_eq.1 hxt]⟩
        · right
          refine (inv.rest t fun j hj hD e => ?_).symm
          have h3 := list_all_range h2 hj
          simp only [Bool.or_eq_true, bne_iff_ne, ne_eq, beq_iff_eq] at h3
          rcases h3 with (h3 | h3) | h3
          · exact h3 e
          · obtain ⟨oj, hoj, e', he', hb', hon⟩ := Region.waitsFor_spec h3
            have := inv.head.closed j oj hoj hD e' he' hb'
            rw [hon, getD_both hu] at this
            cases this
          · subst h3
            rw [getD_both hu] at hD
            cases hD) ho (onto_defers _ _ _) hW
      have hstep : wpOp P l.toArray Q k (wpList P l.toArray Q (l.drop (k + 1))) a w := wpOp_mono (fun a' w' hk' => by
        obtain ⟨v, ha, hv, hg⟩ := hk'
        have := minv_step inv hdist hi hkn ho hV (by omega) ha hv hg
        rw [upTo_set (by omega)] at this
        exact ih (k + 1) a' w' (by omega) this) hop
      rw [List.drop_eq_getElem_cons hkl]
      unfold wpOp at hstep
      simp only [ho] at hstep
      exact hstep
  refine key n 0 a0 w0 (by omega) ⟨⟨by simp [upTo], fun j oj hj hD => by rw [upTo_at (by omega)] at hD; simp at hD, fun t _ ht => by rw [upTo_at (by omega)]; simp at ht; simp [ht]⟩, World.grownBy.refl w0 none, rfl, rfl, fun _ _ => rfl, fun j V hD => by rw [upTo_at (by omega)] at hD; simp at hD⟩
theorem wp_region_seqm {l : List Oper} {id : Nat} (n : Nat) (hB : seqmB l.toArray n a0.tmps.size = true)
    (h : MonoR P l.toArray n a0 w0 (fun Vs => ∀ w, w0.grownBy w none → FinN P l.toArray Q w Vs l a0) n [] l) : (Code.region id l.toArray false).wp P Q a0 w0 :=
  wp_region_lit (wpList_monoR n hB h)
end
end Go.Proofs.YtonkbmknanpchaaDoor

namespace Go.Proofs.YtonkbmknanpchaaDoor
open Go Go.RowKit

set_option maxHeartbeats 400000 in
theorem small18_any (w : World) : Calls Tryd.prog 13 #[] w fun e w' => e = .returned ps.v ∧ w.grownBy w' none := by
  have HB := Lib.hid (Bk.new w 24 #[.int .u64 0, .int .u64 0, .int .u64 0, .int .u64 0, .int .i64 0, .int .i64 0, .int .i64 0, .int .i64 0, .int .i64 0, .int .i64 0, .int .i64 0, .int .i64 0])
  go_enter Tryd.func13, Tryd.ntmps13
  go_wp2
  first
    | (go_ret; exact ⟨rfl, World.grownBy.refl _ none⟩)
    | exact bodyPost_ret (v := ps.v) (by simp [results, Tryd.results13, go_sem]) rfl ⟨rfl, World.grownBy_alloc w _ none⟩
theorem sl_is {X : Nat → Prop} {w : World} {v : Value} {l : List Int} (h : Sl encU X w v l) : SlIs w v l := by
  obtain ⟨A, c, e, h1, h2, h3⟩ := h
  refine ⟨A, c, e, fun hn => ?_, h1, h2⟩
  obtain ⟨g, o, eA, lt, _, hi⟩ := h3 (fun e => hn (by rw [e]; rfl))
  refine ⟨g, o, eA, lt, fun j u hu => ?_⟩
  have hj : j < l.length := by
    rcases Nat.lt_or_ge j l.length with h | h
    · exact h
    · simp [nums, List.getElem?_eq_none h] at hu
  obtain ⟨cs, ⟨e1, _⟩, hc⟩ := hi j hj
  have := hc 0 (.int .u64 l[j]) (by rw [e1]; rfl)
  have hu2 : u = .int .u64 l[j] := by simp [nums, hj] at hu; exact hu.symm
  rw [hu2]
  simpa [encU] using this
/-- Where the worlds stand while the example is dealt. -/
def wkLt (D : World) (SH : List (List (Int × Int))) : Lt where
  C vs W := D.grownBy W none ∧ match vs with
    | [] => True
    | [x] => ∃ a b, x = .tuple #[a, b, .int .i64 0] ∧ Sl (encS encP) TT W a SH
    | _ => False
  R q W W' := match q with
    | 0 => ∃ b t cs, Bk W b t cs ∧ NoTwo cs ∧ W.grownBy W' (some b)
    | _ => False
  g := fun {vs X Y} ⟨h1, h2⟩ hg => ⟨h1.trans hg, by
    match vs, h2 with
    | [], h2 => exact h2
    | [_], ⟨a, b, c, d⟩ => exact ⟨a, b, c, d.kept hg⟩⟩
theorem wk_at {D : World} {SH : List (List (Int × Int))} {vs : List Value} {W : World} {x : Value} (hC : (wkLt D SH).C vs W) (h : vs[0]? = some x) : ∃ a b, x = .tuple #[a, b, .int .i64 0] := by
  obtain ⟨_, h2⟩ := hC
  match vs, h, h2 with
  | [y], h, ⟨a, b, c, _⟩ =>
    have h : some y = some x := h
    injection h with h
    exact ⟨a, b, h ▸ c⟩
def wkS {D : World} {SH : List (List (Int × Int))} (S : List Int) (hS : 2 ≤ S.length) : Qv (wkLt D SH) where
  p _ v W := Sl encU TT W v S
  fr := 0
  st := fun h hg => h.kept hg
  sr := fun {vs u v w w'} _ _ hR h => by
    match vs, hR with
    | [], hR =>
      obtain ⟨b, t, cs, hb, hc, hg⟩ : ∃ b t cs, Bk w b t cs ∧ NoTwo cs ∧ w.grownBy w' (some b) := hR
      exact ((sl_apartU h hS hb hc).keep hg (fun g hn e => hn (by injection e with e))).more fun _ _ _ => trivial
    | _ :: _, hR => exact hR.elim
def wkT {D : World} {SH : List (List (Int × Int))} (T : TS) : Qv (wkLt D SH) where
  p vs v W := vs = [] → ∃ b ga, v = .pointer (some ⟨b, 0, none⟩) ∧ TapeIs W b ga T ∧ ga < W.heap.size ∧ D.heap.size ≤ b
  fr := 0
  st := fun h hg e => by
    obtain ⟨b, ga, k1, k2, k3, k4⟩ := h e
    exact ⟨b, ga, k1, k2.kept hg, Nat.lt_of_lt_of_le k3 hg.size, k4⟩
  sr := fun _ _ _ _ e => absurd e (by simp)
def wkX {D : World} {SH : List (List (Int × Int))} : Qv (wkLt D SH) where
  p vs v _ := vs[0]? = some v
  fr := 0
  st := fun h _ => h
  sr := fun {vs u v w w'} _ _ _ h => by
    have := (List.getElem?_eq_some_iff.1 h).1
    rw [List.getElem?_append_left this]
    exact h
def wkE {D : World} {SH : List (List (Int × Int))} : Qv (wkLt D SH) where
  p vs v _ := ∃ b, vs[0]? = some (.tuple #[v, b, .int .i64 0])
  fr := 0
  st := fun {vs v w w'} ⟨b, h⟩ _ => ⟨b, h⟩
  sr := fun {vs u v w w'} _ _ _ ⟨b, h⟩ => ⟨b, by
    have := (List.getElem?_eq_some_iff.1 h).1
    rw [List.getElem?_append_left this]
    exact h⟩
abbrev T6 : TS := ⟨[1, 2, 3, 4, 5, 6], 0, 0⟩
abbrev dr6 : Nat → Int := fun k => (tsk 11 T6 k).val 11
abbrev SH6 : List (List (Int × Int)) := (List.range 4).map fun i : Nat => dealtI ps (dealFs [5, 7] 11 dr6 1 0 2) (dealRs 11 dr6 1 0 2) ((i : Int) + 1)
theorem sh6_0 : SH6[0]? = some [(6, 5), (0, 0)] := by decide +kernel
theorem sh6_len : SH6.length = 4 := by decide +kernel
theorem sl57 (w : World) : Sl encU TT (w.alloc (.cells #[.int .u64 5, .int .u64 7] 22)) (.slice (some ⟨w.heap.size, 0, none⟩) 2 2) [5, 7] := Sl.build [[.int .u64 5], [.int .u64 7]] rfl ⟨⟨rfl, by decide⟩, ⟨rfl, by decide⟩, trivial⟩ rfl (by decide)
theorem sl16 (w : World) : Sl encU TT (w.alloc (.cells #[.int .u64 1, .int .u64 2, .int .u64 3, .int .u64 4, .int .u64 5, .int .u64 6] 22)) (.slice (some ⟨w.heap.size, 0, none⟩) 6 6) [1, 2, 3, 4, 5, 6] := Sl.build [[.int .u64 1], [.int .u64 2], [.int .u64 3], [.int .u64 4], [.int .u64 5], [.int .u64 6]] rfl ⟨⟨rfl, by decide⟩, ⟨rfl, by decide⟩, ⟨rfl, by decide⟩, ⟨rfl, by decide⟩, ⟨rfl, by decide⟩, ⟨rfl, by decide⟩, trivial⟩ rfl (by decide)
theorem zeros_sl (w : World) (n : Nat) (hn : n ≤ 1000) : Sl encU TT (w.alloc (.cells (madeCells #[.int .u64 0] n) 22)) (.slice (some ⟨w.heap.size, 0, none⟩) n n) (List.replicate n 0) := by
  have h := Sl.block (E := encU) (X := TT) (xs := List.replicate n (0 : Int)) (c := n) (Bk.new w 22 (madeCells #[.int .u64 0] n)) trivial ((List.replicate n (0 : Int)).map fun x => [.int .u64 x]) (by simp) (fun i hi hi' => by
    simp only [List.getElem_map]
    refine ⟨rfl, ?_⟩
    rw [List.getElem_replicate]
    exact ⟨by decide, by decide⟩) (by rw [toList_madeCells_one]; simp [List.map_replicate]) (by simp) (by omega)
  rwa [List.length_replicate] at h
def M15 : List (List (List Int)) := opnM ps (List.replicate 15 0) 1
def A15 : List (List (Int × Int)) := opnA ps (List.replicate 15 0) 1
def B15 : List (List (Int × Int)) := opnB ps (List.replicate 15 0) 1
def M16 : List (List (List Int)) := opnM ps (List.replicate 16 0) 1
def A16 : List (List (Int × Int)) := opnA ps (List.replicate 16 0) 1
def B16 : List (List (Int × Int)) := opnB ps (List.replicate 16 0) 1
theorem m16_eq : M16 = [[[0, 0], [0, 0]], [[0, 0], [0, 0]]] := by decide +kernel
theorem a16_len : A16.length = 2 := by decide +kernel
theorem b16_eq : B16 = [[(0, 0)], [(0, 0)]] := by decide +kernel
def opPv (n : Int) (M : List (List (List Int))) (A B : List (List (Int × Int))) : Pv := ⟨fun v W => ∃ a b c, v = .tuple #[a, b, c, .int .i64 n] ∧ Sl (encS (encS encU)) TT W a M ∧ Sl (encS encP) TT W b A ∧ Sl (encS encP) TT W c B, fun ⟨a, b, c, e, h1, h2, h3⟩ hg => ⟨a, b, c, e, h1.kept hg, h2.kept hg, h3.kept hg⟩⟩
set_option maxRecDepth 100000 in
set_option maxHeartbeats 8000000 in
theorem works18_any (w : World) (hT : TabsAt w) : Calls Tryd.prog 4 #[] w fun e w' => e = .returned (.bool true) ∧ w.grownBy w' none := by
  have HTB := Lib.hid hT
  have HMAY : Hid (mayP ps = true) := Lib.hid (by decide +kernel)
  clear hT
  go_enter Tryd.func4, Tryd.ntmps4
  go_wp2_with fail
  refine (small18_any w).mono ?_
  rintro e w1 ⟨rfl, hg1⟩
  obtain ⟨w2, hw2⟩ : ∃ y, y = w1.alloc (Obj.cells ps.cells 24) := ⟨_, rfl⟩
  obtain ⟨gp, hgp⟩ : ∃ y, y = w1.heap.size := ⟨_, rfl⟩
  have HBp : Hid (Bk w2 gp 24 ps.cells) := Lib.hid (by rw [hw2, hgp]; exact Bk.new _ _ _)
  have HG2 : Hid (w.grownBy w2 none) := Lib.hid (by rw [hw2]; exact hg1.trans (World.grownBy_alloc _ _ none))
  clear hg1
  go_upto_region 2 with (fail)
  first | rw [← hw2, ← hgp] | (have hw2' : w1.alloc (Obj.cells #[.int .u64 23, .int .u64 11, .int .u64 4, .int .u64 9, .int .i64 4, .int .i64 4, .int .i64 1, .int .i64 1, .int .i64 1, .int .i64 1, .int .i64 1, .int .i64 1] 24) = w2 := hw2.symm; rw [hw2', ← hgp]; clear hw2')
  clear hw2 hgp
  obtain ⟨D, hD⟩ : ∃ y, y = w2.drew := ⟨_, rfl⟩
  have HGD : Hid (w2.grownBy D none) := Lib.hid (by rw [hD]; exact grown_drewN' _ 1)
  have HLD : Hid (∀ vs W, (wkLt D SH6).C vs W → ∀ o, W.cell? ⟨gp, o, none⟩ = ps.cells[o]?) := Lib.hid (fun vs W hC => (HBp.out.grown (HGD.out.trans hC.1) (by simp)).cell)
  have HDM : Hid (∀ (b ga : Nat) (W : World) (x : Value), D.grownBy W none → Sl encU TT W x [5, 7] → TapeIs W b ga T6 → ga < W.heap.size → Calls Tryd.prog 7 #[ps.v, x, .pointer (some ⟨b, 0, none⟩)] W fun e w' => ∃ vs vc, e = .returned (.tuple #[vs, vc, .int .i64 0]) ∧ Sl (encS encP) TT w' vs SH6 ∧ W.grownBy w' (some b)) := Lib.hid (fun b ga W x hg hx hti hga => by
    obtain ⟨At, ct, hbt, _⟩ := id hti
    have hx2 := sl_apartU hx (by decide) hbt (tape_ints _ _ _ _ _)
    refine (dmodel_any ps x [5, 7] _ W (tp_ahead b ga 11 T6 ⟨by decide, by decide, by decide, by decide⟩ (by decide) ⟨by decide, by decide⟩) ps_ok HMAY.out (HTB.out.kept (HG2.out.trans (HGD.out.trans hg))) hx2 (fun b hb => hb) (by decide +kernel) 0 1 rfl ⟨hti, hga⟩ (by decide)).mono ?_
    rintro e w' ⟨vs, vc, rfl, k1, k2, k3, k4⟩
    exact ⟨vs, vc, rfl, k1, k4⟩)
  refine wp_region_late (wkLt D SH6) [4] 12 (by kernel_rfl) (by kernel_rfl) (by kernel_rfl) ⟨by rw [← hD]; exact World.grownBy.refl _ none, trivial⟩ ?_
  -- op 0 (slot 15): load
  refine LateR.mono (Qv.eq (ps.v)) [] (by kernel_rfl) (by rfl) rfl (fun vs w' hC => ?_) ?_
  · refine askl_do rfl fun K hK => ?_
    have hp := HLD.out vs w' hC
    go_simp
    exact hK _ _ rfl ⟨rfl, World.grownBy.refl _ none⟩
  -- op 1 (slot 16): buildSlice
  refine LateR.mono (wkS [5, 7] (by decide)) [] (by kernel_rfl) (by rfl) rfl (fun vs w' hC => ?_) ?_
  · refine askl_do rfl fun K hK => ?_
    go_simp
    exact hK _ _ rfl ⟨sl57 w', World.grownBy_alloc w' _ none⟩
  -- op 2 (slot 17): buildSlice
  refine LateR.mono (wkS [1, 2, 3, 4, 5, 6] (by decide)) [] (by kernel_rfl) (by rfl) rfl (fun vs w' hC => ?_) ?_
  · refine askl_do rfl fun K hK => ?_
    go_simp
    exact hK _ _ rfl ⟨sl16 w', World.grownBy_alloc w' _ none⟩
  -- op 3 (slot 18): call
  refine LateR.mono (wkT T6) [(2, 17)] (by kernel_rfl) (by rfl) rfl (fun vs w' hC => ?_) ?_
  · intro x17 h17
    have h17 : Sl encU TT w' x17 [1, 2, 3, 4, 5, 6] := h17
    refine askl_do rfl fun K hK => ?_
    go_simp
    refine (of_made x17 [1, 2, 3, 4, 5, 6] 0 w' (sl_is h17) (by decide)).mono ?_
    rintro e w3 ⟨b, ga, rfl, k1, k2, k3, k4, k5⟩
    exact hK _ _ rfl ⟨fun _ => ⟨b, ga, rfl, k1, k4, Nat.le_trans hC.1.size k2⟩, k5⟩
  -- op 4 (slot 19): call
  refine LateR.turn 0 [(0, 15), (1, 16), (3, 18)] (by kernel_rfl) rfl (fun vs w' hl hC => ?_) ?_
  · rintro _ rfl
    intro x16 h16
    have h16 : Sl encU TT w' x16 [5, 7] := h16
    intro x18 h18
    have h18 : vs = [] → ∃ b ga, x18 = .pointer (some ⟨b, 0, none⟩) ∧ TapeIs w' b ga T6 ∧ ga < w'.heap.size ∧ D.heap.size ≤ b := h18
    refine askl_do rfl fun K hK => ?_
    obtain rfl : vs = [] := List.eq_nil_of_length_eq_zero hl
    obtain ⟨b, ga, rfl, k1, k2, k3⟩ := h18 rfl
    have hbk := k1
    obtain ⟨At, ct, hbt, _⟩ := hbk
    go_simp
    refine (HDM.out b ga w' x16 hC.1 h16 k1 k2).mono ?_
    rintro e w3 ⟨vs', vc, rfl, q1, q4⟩
    exact hK _ _ rfl ⟨⟨b, _, _, hbt, tape_ints _ _ _ _ _, q4⟩, grown_up hC.1 q4 (fun r e => by injection e with e; omega), vs', vc, rfl, q1⟩
  -- op 5 (slot 14): move
  refine LateR.mono (wkX) [(4, 19)] (by kernel_rfl) (by rfl) rfl (fun vs w' hC => ?_) ?_
  · intro x19 h19
    refine askl_do rfl fun K hK => ?_
    go_simp
    exact hK _ _ rfl ⟨h19, World.grownBy.refl _ none⟩
  -- op 6 (slot 20): extract
  refine LateR.mono (wkE) [(5, 14)] (by kernel_rfl) (by rfl) rfl (fun vs w' hC => ?_) ?_
  · intro x14 h14
    have h14 : vs[0]? = some x14 := h14
    refine askl_do rfl fun K hK => ?_
    obtain ⟨vs', vc, rfl⟩ := wk_at hC h14
    go_simp
    exact hK _ _ rfl ⟨⟨vc, h14⟩, World.grownBy.refl _ none⟩
  -- op 7 (slot 21): extract
  refine LateR.mono (Qv.any) [(5, 14)] (by kernel_rfl) (by rfl) rfl (fun vs w' hC => ?_) ?_
  · intro x14 h14
    have h14 : vs[0]? = some x14 := h14
    refine askl_do rfl fun K hK => ?_
    obtain ⟨vs', vc, rfl⟩ := wk_at hC h14
    go_simp
    exact hK _ _ rfl ⟨trivial, World.grownBy.refl _ none⟩
  -- op 8 (slot 22): extract
  refine LateR.mono (Qv.eq (.int .i64 0)) [(5, 14)] (by kernel_rfl) (by rfl) rfl (fun vs w' hC => ?_) ?_
  · intro x14 h14
    have h14 : vs[0]? = some x14 := h14
    refine askl_do rfl fun K hK => ?_
    obtain ⟨vs', vc, rfl⟩ := wk_at hC h14
    go_simp
    exact hK _ _ rfl ⟨rfl, World.grownBy.refl _ none⟩
  -- op 9 (slot 2): assign
  refine LateR.mono (wkE) [(6, 20)] (by kernel_rfl) (by rfl) rfl (fun vs w' hC => ?_) ?_
  · intro x20 h20
    have h20 : ∃ vc, vs[0]? = some (.tuple #[x20, vc, .int .i64 0]) := h20
    refine askl_do rfl fun K hK => ?_
    go_simp
    exact hK _ _ rfl ⟨h20, World.grownBy.refl _ none⟩
  -- op 10 (slot 3): assign
  refine LateR.mono (Qv.any) [(7, 21)] (by kernel_rfl) (by rfl) rfl (fun vs w' hC => ?_) ?_
  · intro x21 h21
    have h21 : True := h21
    refine askl_do rfl fun K hK => ?_
    go_simp
    exact hK _ _ rfl ⟨trivial, World.grownBy.refl _ none⟩
  -- op 11 (slot 4): assign
  refine LateR.mono (Qv.eq (.int .i64 0)) [(8, 22)] (by kernel_rfl) (by rfl) rfl (fun vs w' hC => ?_) ?_
  · rintro _ rfl
    refine askl_do rfl fun K hK => ?_
    go_simp
    exact hK _ _ rfl ⟨rfl, World.grownBy.refl _ none⟩
  intro vs w5 hvl hC5
  obtain ⟨u, rfl⟩ : ∃ u, vs = [u] := List.length_eq_one_iff.1 hvl
  intro y0 k0 y1 k1 y2 k2 y3 k3 y4 k4 y5 k5 y6 k6 y7 k7 y8 k8 y9 k9 y10 k10 y11 k11
  show wpList Tryd.prog _ _ _ _ w5
  simp only [Act.put, List.setIfInBounds_toArray, List.set_cons_zero, List.set_cons_succ]
  obtain ⟨g5, va, vb, eab, hSH5⟩ := hC5
  obtain ⟨vc', hv⟩ : ∃ vc, some u = some (.tuple #[y9, vc, .int .i64 0]) := k9
  have e9 : y9 = va := by
    injection hv with hv
    rw [eab] at hv
    injection hv with hv
    injection hv with hv
    injection hv with hv _
    exact hv.symm
  have e11 : y11 = .int .i64 0 := k11
  subst e9 e11
  obtain ⟨As, cs, es, hle, _⟩ := hSH5.form
  have hl4 : SH6.length = 4 := sh6_len
  rw [hl4] at es hle
  subst es
  have HG5 : Hid (w2.grownBy w5 none) := Lib.hid (HGD.out.trans g5)
  obtain ⟨gs, os, cs', us, eS, _, _, hcs, hss⟩ := hSH5.atS (k := 0) (by rw [hl4]; decide)
  injection eS with eS1 eS2 eS3
  subst eS1 eS3
  clear eS2
  have h60 : SH6[0]'(by rw [hl4]; decide) = [(6, 5), (0, 0)] := by
    have h := sh6_0
    rw [List.getElem?_eq_getElem (by rw [hl4]; decide)] at h
    injection h
  rw [h60] at hss
  rw [Nat.add_zero] at hcs
  obtain ⟨A0, c0, e0, hle0, _⟩ := hss.form
  have hle0 : 2 ≤ c0 := hle0
  have e0 : us = .slice A0 2 c0 := e0
  subst e0
  have HSS := Lib.hid hss
  obtain ⟨wa, hwa⟩ : ∃ y, y = w5.alloc (.cells #[.int .u64 6, .int .u64 5, .int .u64 0, .int .u64 0] 44) := ⟨_, rfl⟩
  have HGa : Hid (w5.grownBy wa none) := Lib.hid (by rw [hwa]; exact World.grownBy_alloc _ _ none)
  have HSa : Hid (Sl encP TT wa (.slice (some ⟨w5.heap.size, 0, none⟩) 2 2) [(6, 5), (0, 0)]) := Lib.hid (by
    rw [hwa]
    exact Sl.build [[.int .u64 6, .int .u64 5], [.int .u64 0, .int .u64 0]] rfl ⟨⟨rfl, by decide, by decide⟩, ⟨rfl, by decide, by decide⟩, trivial⟩ rfl (by decide))
  clear hSH5 hss g5 eab hv k0 k1 k2 k3 k4 k5 k6 k7 k8 k10 HLD HDM hl4 h60 hD
  go_wp2_with fail
  rw [← hwa]
  refine (same_eq _ _ _ _ _ wa (HSS.out.kept HGa.out) HSa.out).mono ?_
  rintro e w6 ⟨rfl, hgq⟩
  have hg : wa.grownBy w6 none := by obtain ⟨nq, rfl⟩ := hgq; exact grown_drewN' _ nq
  clear hgq
  have HG6 : Hid (w5.grownBy w6 none) := Lib.hid (HGa.out.trans hg)
  have hcs6 : w6.cell? ⟨gs, os, none⟩ = some (.slice A0 2 c0) := cell_kept hcs HG6.out (by simp)
  clear hg hwa
  go_wp2_with fail
  refine (dpairs_any _ _ _ w6 (HSS.out.kept HG6.out) (by decide)).mono ?_
  rintro e w7 ⟨v44, rfl, h44, hg⟩
  have HG7 : Hid (w5.grownBy w7 none) := Lib.hid (HG6.out.trans hg)
  obtain ⟨A44, n44, c44, rfl⟩ := h44.shape
  obtain ⟨wb, hwb⟩ : ∃ y, y = w7.alloc (.cells #[.int .u64 6, .int .u64 5, .int .u64 0, .int .u64 0] 22) := ⟨_, rfl⟩
  have HGb : Hid (w7.grownBy wb none) := Lib.hid (by rw [hwb]; exact World.grownBy_alloc _ _ none)
  have HSb : Hid (Sl encU TT wb (.slice (some ⟨w7.heap.size, 0, none⟩) 4 4) [6, 5, 0, 0]) := Lib.hid (by
    rw [hwb]
    exact Sl.build [[.int .u64 6], [.int .u64 5], [.int .u64 0], [.int .u64 0]] rfl ⟨⟨rfl, by decide⟩, ⟨rfl, by decide⟩, ⟨rfl, by decide⟩, ⟨rfl, by decide⟩, trivial⟩ rfl (by decide))
  have HS44 : Hid (Sl encU (fun g => w6.heap.size ≤ g) wb (.slice A44 n44 c44) [6, 5, 0, 0]) := Lib.hid (h44.kept HGb.out)
  clear hg h44 hcs hcs6
  go_wp2_with fail
  rw [← hwb]
  refine (nums_eq _ _ _ _ _ wb HS44.out HSb.out).mono ?_
  rintro e w8 ⟨rfl, hgq⟩
  have hg : wb.grownBy w8 none := by obtain ⟨nq, rfl⟩ := hgq; exact grown_drewN' _ nq
  clear hgq
  have HG8 : Hid (w2.grownBy w8 none) := Lib.hid (HG5.out.trans (HG7.out.trans (HGb.out.trans hg)))
  clear hg hwb
  go_upto_region 5 with (fail)
  have HMK15 : Hid (∀ w', (Instr.makeSlice 25 (.int .i64 15) (.int .i64 15)).run Tryd.prog w' = .ok (.slice (some ⟨w'.heap.size, 0, none⟩) 15 15) (w'.alloc (.cells (madeCells #[.int .u64 0] 15) 22))) := Lib.hid (run_make_row' (P := Tryd.prog) 25 22 (.int .u64 0) 8 Tryd.underlying25 info_u64 rfl .i64 .i64 15 (by decide) (by decide))
  have HMK16 : Hid (∀ w', (Instr.makeSlice 25 (.int .i64 16) (.int .i64 16)).run Tryd.prog w' = .ok (.slice (some ⟨w'.heap.size, 0, none⟩) 16 16) (w'.alloc (.cells (madeCells #[.int .u64 0] 16) 22))) := Lib.hid (run_make_row' (P := Tryd.prog) 25 22 (.int .u64 0) 8 Tryd.underlying25 info_u64 rfl .i64 .i64 16 (by decide) (by decide))
  have HOP15 : Hid (∀ W x, Sl encU TT W x (List.replicate 15 0) → Calls Tryd.prog 18 #[ps.v, x, .int .i64 1] W (Gives4 (fun g => W.heap.size ≤ g) W M15 A15 B15 4)) := Lib.hid (fun W x hx => by
    have := open_any ps x (List.replicate 15 0) 1 TT W hx (by simp) ⟨by decide, by decide⟩
    rw [show opnE ps (List.replicate 15 (0 : Int)).length 1 = 4 by decide +kernel] at this
    exact this)
  have HOP16 : Hid (∀ W x, Sl encU TT W x (List.replicate 16 0) → Calls Tryd.prog 18 #[ps.v, x, .int .i64 1] W (Gives4 (fun g => W.heap.size ≤ g) W M16 A16 B16 0)) := Lib.hid (fun W x hx => by
    have := open_any ps x (List.replicate 16 0) 1 TT W hx (by simp) ⟨by decide, by decide⟩
    rw [show opnE ps (List.replicate 16 (0 : Int)).length 1 = 0 by decide +kernel] at this
    exact this)
  have HD8 : Hid (w8.grownBy w8.drew none) := Lib.hid (grown_drewN' _ 1)
  have HLD : Hid (∀ W, w8.drew.grownBy W none → ∀ o, W.cell? ⟨gp, o, none⟩ = ps.cells[o]?) := Lib.hid (fun W hg => (HBp.out.grown (HG8.out.trans (HD8.out.trans hg)) (by simp)).cell)
  refine wp_region_mono 12 (by kernel_rfl) (by kernel_rfl) ?_
  -- op 0 (slot 50): load
  refine MonoR.step (Pv.eq (ps.v)) [] (by kernel_rfl) (fun w' hw' => ?_) ?_
  · refine ask_do rfl fun K hK => ?_
    have hp := HLD.out w' hw'
    go_simp
    exact hK _ _ rfl rfl (World.grownBy.refl _ none)
  -- op 1 (slot 51): makeSlice
  refine MonoR.step (Pv.sl encU TT (List.replicate 15 0)) [] (by kernel_rfl) (fun w' hw' => ?_) ?_
  · refine ask_do rfl fun K hK => ?_
    have hmk := HMK15.out w'
    go_simp
    exact hK _ _ rfl (zeros_sl w' 15 (by decide)) (World.grownBy_alloc w' _ none)
  -- op 2 (slot 52): call
  refine MonoR.step (opPv 4 M15 A15 B15) [(0, 50), (1, 51)] (by kernel_rfl) (fun w' hw' => ?_) ?_
  · rintro _ rfl
    intro x51 h51
    have h51 : Sl encU TT w' x51 (List.replicate 15 0) := h51
    refine ask_do rfl fun K hK => ?_
    go_simp
    refine (HOP15.out w' x51 h51).mono ?_
    rintro e w3 ⟨vm, va, vb, rfl, q1, q2, q3, q4⟩
    exact hK _ _ rfl ⟨vm, va, vb, rfl, (Sl.plain2 q1).more fun _ _ _ => trivial, q2.more fun _ _ _ => trivial, q3.more fun _ _ _ => trivial⟩ q4
  -- op 3 (slot 49): move
  refine MonoR.step (opPv 4 M15 A15 B15) [(2, 52)] (by kernel_rfl) (fun w' hw' => ?_) ?_
  · intro x52 h52
    have h52 : ∃ a b c, x52 = .tuple #[a, b, c, .int .i64 4] ∧ Sl (encS (encS encU)) TT w' a M15 ∧ Sl (encS encP) TT w' b A15 ∧ Sl (encS encP) TT w' c B15 := h52
    obtain ⟨a52, b52, c52, e52, ka52, kb52, kc52⟩ := h52
    subst e52
    refine ask_do rfl fun K hK => ?_
    go_simp
    exact hK _ _ rfl ⟨a52, b52, c52, rfl, ka52, kb52, kc52⟩ (World.grownBy.refl _ none)
  -- op 4 (slot 53): extract
  refine MonoR.step (Pv.sl (encS (encS encU)) TT M15) [(3, 49)] (by kernel_rfl) (fun w' hw' => ?_) ?_
  · intro x49 h49
    have h49 : ∃ a b c, x49 = .tuple #[a, b, c, .int .i64 4] ∧ Sl (encS (encS encU)) TT w' a M15 ∧ Sl (encS encP) TT w' b A15 ∧ Sl (encS encP) TT w' c B15 := h49
    obtain ⟨a49, b49, c49, e49, ka49, kb49, kc49⟩ := h49
    subst e49
    refine ask_do rfl fun K hK => ?_
    go_simp
    exact hK _ _ rfl ka49 (World.grownBy.refl _ none)
  -- op 5 (slot 54): extract
  refine MonoR.step (Pv.sl (encS encP) TT A15) [(3, 49)] (by kernel_rfl) (fun w' hw' => ?_) ?_
  · intro x49 h49
    have h49 : ∃ a b c, x49 = .tuple #[a, b, c, .int .i64 4] ∧ Sl (encS (encS encU)) TT w' a M15 ∧ Sl (encS encP) TT w' b A15 ∧ Sl (encS encP) TT w' c B15 := h49
    obtain ⟨a49, b49, c49, e49, ka49, kb49, kc49⟩ := h49
    subst e49
    refine ask_do rfl fun K hK => ?_
    go_simp
    exact hK _ _ rfl kb49 (World.grownBy.refl _ none)
  -- op 6 (slot 55): extract
  refine MonoR.step (Pv.sl (encS encP) TT B15) [(3, 49)] (by kernel_rfl) (fun w' hw' => ?_) ?_
  · intro x49 h49
    have h49 : ∃ a b c, x49 = .tuple #[a, b, c, .int .i64 4] ∧ Sl (encS (encS encU)) TT w' a M15 ∧ Sl (encS encP) TT w' b A15 ∧ Sl (encS encP) TT w' c B15 := h49
    obtain ⟨a49, b49, c49, e49, ka49, kb49, kc49⟩ := h49
    subst e49
    refine ask_do rfl fun K hK => ?_
    go_simp
    exact hK _ _ rfl kc49 (World.grownBy.refl _ none)
  -- op 7 (slot 56): extract
  refine MonoR.step (Pv.eq (.int .i64 4)) [(3, 49)] (by kernel_rfl) (fun w' hw' => ?_) ?_
  · intro x49 h49
    have h49 : ∃ a b c, x49 = .tuple #[a, b, c, .int .i64 4] ∧ Sl (encS (encS encU)) TT w' a M15 ∧ Sl (encS encP) TT w' b A15 ∧ Sl (encS encP) TT w' c B15 := h49
    obtain ⟨a49, b49, c49, e49, ka49, kb49, kc49⟩ := h49
    subst e49
    refine ask_do rfl fun K hK => ?_
    go_simp
    exact hK _ _ rfl rfl (World.grownBy.refl _ none)
  -- op 8 (slot 5): assign
  refine MonoR.step (Pv.sl (encS (encS encU)) TT M15) [(4, 53)] (by kernel_rfl) (fun w' hw' => ?_) ?_
  · intro x53 h53
    have h53 : Sl (encS (encS encU)) TT w' x53 M15 := h53
    refine ask_do rfl fun K hK => ?_
    go_simp
    exact hK _ _ rfl h53 (World.grownBy.refl _ none)
  -- op 9 (slot 6): assign
  refine MonoR.step (Pv.sl (encS encP) TT A15) [(5, 54)] (by kernel_rfl) (fun w' hw' => ?_) ?_
  · intro x54 h54
    have h54 : Sl (encS encP) TT w' x54 A15 := h54
    refine ask_do rfl fun K hK => ?_
    go_simp
    exact hK _ _ rfl h54 (World.grownBy.refl _ none)
  -- op 10 (slot 7): assign
  refine MonoR.step (Pv.sl (encS encP) TT B15) [(6, 55)] (by kernel_rfl) (fun w' hw' => ?_) ?_
  · intro x55 h55
    have h55 : Sl (encS encP) TT w' x55 B15 := h55
    refine ask_do rfl fun K hK => ?_
    go_simp
    exact hK _ _ rfl h55 (World.grownBy.refl _ none)
  -- op 11 (slot 8): assign
  refine MonoR.step (Pv.eq (.int .i64 4)) [(7, 56)] (by kernel_rfl) (fun w' hw' => ?_) ?_
  · rintro _ rfl
    refine ask_do rfl fun K hK => ?_
    go_simp
    exact hK _ _ rfl rfl (World.grownBy.refl _ none)
  
  intro w9 hw9
  intro y0 k0 y1 k1 y2 k2 y3 k3 y4 k4 y5 k5 y6 k6 y7 k7 y8 k8 y9 k9 y10 k10 y11 k11
  refine wpList_nil ?_
  simp only [Act.put, List.setIfInBounds_toArray, List.set_cons_zero, List.set_cons_succ]
  have e11 : y11 = .int .i64 4 := k11
  subst e11
  have HG9 : Hid (w2.grownBy w9 none) := Lib.hid (HG8.out.trans (HD8.out.trans hw9))
  clear hw9 HLD HD8 k0 k1 k2 k3 k4 k5 k6 k7 k8 k9 k10
  go_upto_region 6 with (fail)
  have HD9 : Hid (w9.grownBy w9.drew none) := Lib.hid (grown_drewN' _ 1)
  have HLD : Hid (∀ W, w9.drew.grownBy W none → ∀ o, W.cell? ⟨gp, o, none⟩ = ps.cells[o]?) := Lib.hid (fun W hg => (HBp.out.grown (HG9.out.trans (HD9.out.trans hg)) (by simp)).cell)
  refine wp_region_mono 12 (by kernel_rfl) (by kernel_rfl) ?_
  -- op 0 (slot 58): load
  refine MonoR.step (Pv.eq (ps.v)) [] (by kernel_rfl) (fun w' hw' => ?_) ?_
  · refine ask_do rfl fun K hK => ?_
    have hp := HLD.out w' hw'
    go_simp
    exact hK _ _ rfl rfl (World.grownBy.refl _ none)
  -- op 1 (slot 59): makeSlice
  refine MonoR.step (Pv.sl encU TT (List.replicate 16 0)) [] (by kernel_rfl) (fun w' hw' => ?_) ?_
  · refine ask_do rfl fun K hK => ?_
    have hmk := HMK16.out w'
    go_simp
    exact hK _ _ rfl (zeros_sl w' 16 (by decide)) (World.grownBy_alloc w' _ none)
  -- op 2 (slot 60): call
  refine MonoR.step (opPv 0 M16 A16 B16) [(0, 58), (1, 59)] (by kernel_rfl) (fun w' hw' => ?_) ?_
  · rintro _ rfl
    intro x59 h59
    have h59 : Sl encU TT w' x59 (List.replicate 16 0) := h59
    refine ask_do rfl fun K hK => ?_
    go_simp
    refine (HOP16.out w' x59 h59).mono ?_
    rintro e w3 ⟨vm, va, vb, rfl, q1, q2, q3, q4⟩
    exact hK _ _ rfl ⟨vm, va, vb, rfl, (Sl.plain2 q1).more fun _ _ _ => trivial, q2.more fun _ _ _ => trivial, q3.more fun _ _ _ => trivial⟩ q4
  -- op 3 (slot 57): move
  refine MonoR.step (opPv 0 M16 A16 B16) [(2, 60)] (by kernel_rfl) (fun w' hw' => ?_) ?_
  · intro x60 h60
    have h60 : ∃ a b c, x60 = .tuple #[a, b, c, .int .i64 0] ∧ Sl (encS (encS encU)) TT w' a M16 ∧ Sl (encS encP) TT w' b A16 ∧ Sl (encS encP) TT w' c B16 := h60
    obtain ⟨a60, b60, c60, e60, ka60, kb60, kc60⟩ := h60
    subst e60
    refine ask_do rfl fun K hK => ?_
    go_simp
    exact hK _ _ rfl ⟨a60, b60, c60, rfl, ka60, kb60, kc60⟩ (World.grownBy.refl _ none)
  -- op 4 (slot 61): extract
  refine MonoR.step (Pv.sl (encS (encS encU)) TT M16) [(3, 57)] (by kernel_rfl) (fun w' hw' => ?_) ?_
  · intro x57 h57
    have h57 : ∃ a b c, x57 = .tuple #[a, b, c, .int .i64 0] ∧ Sl (encS (encS encU)) TT w' a M16 ∧ Sl (encS encP) TT w' b A16 ∧ Sl (encS encP) TT w' c B16 := h57
    obtain ⟨a57, b57, c57, e57, ka57, kb57, kc57⟩ := h57
    subst e57
    refine ask_do rfl fun K hK => ?_
    go_simp
    exact hK _ _ rfl ka57 (World.grownBy.refl _ none)
  -- op 5 (slot 62): extract
  refine MonoR.step (Pv.sl (encS encP) TT A16) [(3, 57)] (by kernel_rfl) (fun w' hw' => ?_) ?_
  · intro x57 h57
    have h57 : ∃ a b c, x57 = .tuple #[a, b, c, .int .i64 0] ∧ Sl (encS (encS encU)) TT w' a M16 ∧ Sl (encS encP) TT w' b A16 ∧ Sl (encS encP) TT w' c B16 := h57
    obtain ⟨a57, b57, c57, e57, ka57, kb57, kc57⟩ := h57
    subst e57
    refine ask_do rfl fun K hK => ?_
    go_simp
    exact hK _ _ rfl kb57 (World.grownBy.refl _ none)
  -- op 6 (slot 63): extract
  refine MonoR.step (Pv.sl (encS encP) TT B16) [(3, 57)] (by kernel_rfl) (fun w' hw' => ?_) ?_
  · intro x57 h57
    have h57 : ∃ a b c, x57 = .tuple #[a, b, c, .int .i64 0] ∧ Sl (encS (encS encU)) TT w' a M16 ∧ Sl (encS encP) TT w' b A16 ∧ Sl (encS encP) TT w' c B16 := h57
    obtain ⟨a57, b57, c57, e57, ka57, kb57, kc57⟩ := h57
    subst e57
    refine ask_do rfl fun K hK => ?_
    go_simp
    exact hK _ _ rfl kc57 (World.grownBy.refl _ none)
  -- op 7 (slot 64): extract
  refine MonoR.step (Pv.eq (.int .i64 0)) [(3, 57)] (by kernel_rfl) (fun w' hw' => ?_) ?_
  · intro x57 h57
    have h57 : ∃ a b c, x57 = .tuple #[a, b, c, .int .i64 0] ∧ Sl (encS (encS encU)) TT w' a M16 ∧ Sl (encS encP) TT w' b A16 ∧ Sl (encS encP) TT w' c B16 := h57
    obtain ⟨a57, b57, c57, e57, ka57, kb57, kc57⟩ := h57
    subst e57
    refine ask_do rfl fun K hK => ?_
    go_simp
    exact hK _ _ rfl rfl (World.grownBy.refl _ none)
  -- op 8 (slot 9): assign
  refine MonoR.step (Pv.sl (encS (encS encU)) TT M16) [(4, 61)] (by kernel_rfl) (fun w' hw' => ?_) ?_
  · intro x61 h61
    have h61 : Sl (encS (encS encU)) TT w' x61 M16 := h61
    refine ask_do rfl fun K hK => ?_
    go_simp
    exact hK _ _ rfl h61 (World.grownBy.refl _ none)
  -- op 9 (slot 10): assign
  refine MonoR.step (Pv.sl (encS encP) TT A16) [(5, 62)] (by kernel_rfl) (fun w' hw' => ?_) ?_
  · intro x62 h62
    have h62 : Sl (encS encP) TT w' x62 A16 := h62
    refine ask_do rfl fun K hK => ?_
    go_simp
    exact hK _ _ rfl h62 (World.grownBy.refl _ none)
  -- op 10 (slot 11): assign
  refine MonoR.step (Pv.sl (encS encP) TT B16) [(6, 63)] (by kernel_rfl) (fun w' hw' => ?_) ?_
  · intro x63 h63
    have h63 : Sl (encS encP) TT w' x63 B16 := h63
    refine ask_do rfl fun K hK => ?_
    go_simp
    exact hK _ _ rfl h63 (World.grownBy.refl _ none)
  -- op 11 (slot 12): assign
  refine MonoR.step (Pv.eq (.int .i64 0)) [(7, 64)] (by kernel_rfl) (fun w' hw' => ?_) ?_
  · rintro _ rfl
    refine ask_do rfl fun K hK => ?_
    go_simp
    exact hK _ _ rfl rfl (World.grownBy.refl _ none)
  
  intro w10 hw10
  intro z0 k0 z1 k1 z2 k2 z3 k3 z4 k4 z5 k5 z6 k6 z7 k7 z8 k8 z9 k9 z10 k10 z11 k11
  refine wpList_nil ?_
  simp only [Act.put, List.setIfInBounds_toArray, List.set_cons_zero, List.set_cons_succ]
  have e11 : z11 = .int .i64 0 := k11
  subst e11
  have HG10 : Hid (w2.grownBy w10 none) := Lib.hid (HG9.out.trans (HD9.out.trans hw10))
  have h8 : Sl (encS (encS encU)) TT w10 z8 [[[0, 0], [0, 0]], [[0, 0], [0, 0]]] := by rw [← m16_eq]; exact k8
  have h9 : Sl (encS encP) TT w10 z9 A16 := k9
  have h10 : Sl (encS encP) TT w10 z10 [[(0, 0)], [(0, 0)]] := by rw [← b16_eq]; exact k10
  obtain ⟨A9, c9, e9, hle9, _⟩ := h9.form
  rw [a16_len] at e9 hle9
  obtain ⟨gm, om, cm, um, em, _, _, hcm, hm⟩ := h8.atS (k := 1) (by decide)
  have em : z8 = .slice (some ⟨gm, om, none⟩) 2 cm := em
  have hm : Sl (encS encU) TT w10 um [[0, 0], [0, 0]] := hm
  obtain ⟨gn, on, cn, un, en, _, _, hcn, hn⟩ := hm.atS (k := 1) (by decide)
  have en : um = .slice (some ⟨gn, on, none⟩) 2 cn := en
  have hn : Sl encU TT w10 un [0, 0] := hn
  obtain ⟨An, cn2, en2, _, _⟩ := hn.form
  have en2 : un = .slice An 2 cn2 := en2
  obtain ⟨gb, ob, cb, ub, eb, _, _, hcb, hb⟩ := h10.atS (k := 1) (by decide)
  have eb : z10 = .slice (some ⟨gb, ob, none⟩) 2 cb := eb
  have hb : Sl encP TT w10 ub [(0, 0)] := hb
  obtain ⟨Ab, cb2, eb2, _, _⟩ := hb.form
  have eb2 : ub = .slice Ab 1 cb2 := eb2
  subst e9 em en en2 eb eb2
  clear hw10 HLD HD9 k0 k1 k2 k3 k4 k5 k6 k7 k8 k9 k10 h8 h9 h10 hm hn hb
  go_wp2_with fail
  go_ret
  exact ⟨rfl, HG2.out.trans HG10.out⟩
end Go.Proofs.YtonkbmknanpchaaDoor
