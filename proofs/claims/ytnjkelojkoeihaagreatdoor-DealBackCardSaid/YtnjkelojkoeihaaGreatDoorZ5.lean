/- The plain law of DealMeets: rows and columns of squares fit their matrix, and meet. The plain law of DealModel: the members that it takes, and what their shares come to. A region that draws its order: all its operations but the last one read, or call what leaves the world as it was but for draws; the last one (a store, an append) waits for all others. One walk in the order of the text. consistorylaw18.sum, walked. pedersen.Bonded, walked. The plain law of DealShares: what rows are at 0 comes to the share, and the matrix is bonded to the dealer. consistorylaw18.secrets, some, walked. deal.Model, walked (printed by mk_dealm.py). What law18's dealt stands for, in plain Lean: the share, its matrix, rows and columns, and how these hang together. A region that draws its order, in which some operations (the late ones: calls, appends, stores) turn what lay there, in whichever order they come (printed by mk_free.py from XLate). A drawn region that calls, lays a block, and stores into it what the call told (d, e := f(..) of a struct that lies in memory): the call and the block come in either order. -/
import Derived.Test.YtnjkelojkoeihaaGreatDoorZ4
import Derived.Deep.Quiet
import Derived.Deep.QuietTactic
import Derived.BigQuiet
import Derived.StillTail
namespace Go.Proofs.YtnjkelojkoeihaaGreatDoor
open Go Go.RowKit

theorem polyZ_snoc (x : Int) (y : Int) : ∀ l : List Int, polyZ x (l ++ [y]) = polyZ x l + x ^ l.length * y
  | [] => by simp [polyZ]
  | a :: l => by
    simp only [List.cons_append, polyZ, List.length_cons]
    rw [polyZ_snoc x y l, Int.pow_succ]
    grind
theorem polyZ_range (x : Int) (f : Nat → Int) (n : Nat) : polyZ x ((List.range (n + 1)).map f) = polyZ x ((List.range n).map f) + x ^ n * f n := by
  rw [hsnoc, polyZ_snoc]
  simp
theorem polyZ_zero (x : Int) : ∀ n : Nat, polyZ x ((List.range n).map fun _ => 0) = 0
  | 0 => rfl
  | n + 1 => by rw [polyZ_range, polyZ_zero x n]; simp
theorem polyZ_add (x c : Int) (f g : Nat → Int) : ∀ n : Nat, polyZ x ((List.range n).map fun k => f k + c * g k) = polyZ x ((List.range n).map f) + c * polyZ x ((List.range n).map g)
  | 0 => by simp [polyZ]
  | n + 1 => by
    rw [polyZ_range, polyZ_range, polyZ_range, polyZ_add x c f g n]
    grind
/-- The sums over rows and columns may be taken in either order. -/
theorem polyZ_swap (x y : Int) (a : Nat → Nat → Int) (m : Nat) : ∀ n : Nat, polyZ x ((List.range n).map fun k => polyZ y ((List.range m).map fun i => a i k)) = polyZ y ((List.range m).map fun i => polyZ x ((List.range n).map fun k => a i k))
  | 0 => (polyZ_zero y m).symm
  | n + 1 => by
    rw [polyZ_range, polyZ_swap x y a m n]
    have e : ((List.range m).map fun i => polyZ x ((List.range (n + 1)).map fun k => a i k)) = (List.range m).map fun i => polyZ x ((List.range n).map fun k => a i k) + x ^ n * a i n := List.map_congr_left fun i _ => polyZ_range x _ n
    rw [e, polyZ_add]
theorem polyZ_cg {q : Int} (x : Int) (f g : Nat → Int) : ∀ n : Nat, (∀ k, k < n → Cg q (f k) (g k)) → Cg q (polyZ x ((List.range n).map f)) (polyZ x ((List.range n).map g))
  | 0, _ => Cg.refl _ _
  | n + 1, h => by
    rw [polyZ_range, polyZ_range]
    exact (polyZ_cg x f g n fun k hk => h k (by omega)).add ((h n (by omega)).mul_left _)
theorem list_range {l : List Int} {n : Nat} (h : l.length = n) : l = (List.range n).map fun k => l[k]?.getD 0 := by
  subst h
  refine List.ext_getElem (by simp) fun i h1 h2 => ?_
  simp [List.getElem?_eq_getElem h1]
theorem eval_eq {q : Int} (hq : mayB q = true) {a b : List Int} {x y : Int} (h : Cg q (polyZ x a) (polyZ y b)) : evalI q a x = evalI q b y := by
  have h1 := evalI_bd hq a x
  have h2 := evalI_bd hq b y
  have h3 : Cg q (evalI q a x) (evalI q b y) := ((evalI_cg hq x a).trans h).trans (evalI_cg hq y b).symm
  unfold Cg at h3
  rwa [Int.emod_eq_of_lt h1.1 h1.2, Int.emod_eq_of_lt h2.1 h2.2] at h3
theorem mat_at {t : Nat} {M : List (List Int)} (h : SqL t M) {i : Nat} (hi : i < t) : ∃ r, M[i]? = some r ∧ r.length = t := by
  have hl : i < M.length := by rw [h.1]; exact hi
  exact ⟨M[i], List.getElem?_eq_getElem hl, h.2 _ (List.getElem_mem hl)⟩
theorem rowI_sq {t : Nat} {M : List (List Int)} (h : SqL t M) (q x : Int) : rowI q M x = (List.range t).map fun k => evalI q ((List.range t).map fun i => (M[i]?.getD [])[k]?.getD 0) x := by
  unfold rowI
  rw [wide_sqL h]
  refine List.map_congr_left fun k _ => ?_
  rw [colZ_range h.1]
theorem colV_sq {t : Nat} {M : List (List Int)} (h : SqL t M) (q y : Int) : colV q M y = (List.range t).map fun i => evalI q ((List.range t).map fun k => (M[i]?.getD [])[k]?.getD 0) y := by
  refine List.ext_getElem (by simp [colV, h.1]) fun i h1 h2 => ?_
  have hi : i < t := by simpa using h2
  have hl : i < M.length := by rw [h.1]; exact hi
  simp only [colV, List.getElem_map, List.getElem_range]
  obtain ⟨r, hr, hrl⟩ := mat_at h hi
  have e : M[i] = r := by
    have := List.getElem?_eq_getElem hl
    rw [hr] at this
    injection this with this
    exact this.symm
  rw [e, hr, Option.getD_some, ← list_range hrl]
/-- A row at y is the column of y at the row's place. -/
theorem row_col {q : Int} (hq : mayB q = true) {t : Nat} {M : List (List Int)} (h : SqL t M) (x y : Int) : evalI q (rowI q M x) y = evalI q (colV q M y) x := by
  rw [rowI_sq h, colV_sq h]
  refine eval_eq hq ?_
  refine (polyZ_cg y _ (fun k => polyZ x ((List.range t).map fun i => (M[i]?.getD [])[k]?.getD 0)) t fun k _ => evalI_cg hq _ _).trans ?_
  rw [polyZ_swap y x (fun i k => (M[i]?.getD [])[k]?.getD 0) t t]
  exact (polyZ_cg x _ (fun i => polyZ y ((List.range t).map fun k => (M[i]?.getD [])[k]?.getD 0)) t fun i _ => evalI_cg hq _ _).symm
theorem zipP_fst {a b : List Int} {n : Nat} (h : a.length = n) : (zipP a b n).map (·.1) = a := pairsOf_fst h
theorem zipP_snd {a b : List Int} {n : Nat} (h : b.length = n) : (zipP a b n).map (·.2) = b := pairsOf_snd h
theorem atP_zip {q x : Int} {a b : List Int} {n : Nat} (ha : a.length = n) (hb : b.length = n) : atP q x (zipP a b n) = (evalI q a x, evalI q b x) := by
  unfold atP
  rw [zipP_fst ha, zipP_snd hb]
/-- What a dealing's squares are. -/
structure Squares (q : Int) (t S : Nat) (F B : List (List (List Int))) : Prop where
  f : F.length = S ∧ ∀ M ∈ F, Sq t M
  b : B.length = S ∧ ∀ M ∈ B, Sq t M
theorem Sq.l {t : Nat} {M : List (List Int)} (h : Sq t M) : SqL t M := ⟨h.1, fun c hc => (h.2 c hc).1⟩
section
variable {q : Int} {t S : Nat} {F B : List (List (List Int))}
theorem Squares.atF (h : Squares q t S F B) {s : Nat} (hs : s < S) : ∃ M, F[s]? = some M ∧ Sq t M := by
  have hl : s < F.length := by rw [h.f.1]; exact hs
  exact ⟨F[s], List.getElem?_eq_getElem hl, h.f.2 _ (List.getElem_mem hl)⟩
theorem Squares.atB (h : Squares q t S F B) {s : Nat} (hs : s < S) : ∃ M, B[s]? = some M ∧ Sq t M := by
  have hl : s < B.length := by rw [h.b.1]; exact hs
  exact ⟨B[s], List.getElem?_eq_getElem hl, h.b.2 _ (List.getElem_mem hl)⟩
/-- Rows and columns meet. -/
theorem meets_law (hq : mayB q = true) (h : Squares q t S F B) (j m : Int) : (rowsP q F B t j).map (atP q m) = (colsP q F B t m).map (atP q j) := by
  unfold rowsP colsP
  rw [List.map_map, List.map_map]
  refine List.map_congr_left fun s hs => ?_
  have hs1 : s < S := by rw [← h.f.1]; exact List.mem_range.1 hs
  obtain ⟨M, e1, s1⟩ := h.atF hs1
  obtain ⟨R, e2, s2⟩ := h.atB hs1
  show atP q m (rowP q F B t j s) = atP q j (colP q F B t m s)
  unfold rowP colP
  rw [e1, e2, Option.getD_some, Option.getD_some, atP_zip (rowI_sqL s1.l _ _) (rowI_sqL s2.l _ _), atP_zip (colV_sqL s1.l _ _) (colV_sqL s2.l _ _), row_col hq s1.l, row_col hq s2.l]
theorem rowI_pos (hq : mayB q = true) (M : List (List Int)) (x : Int) : ∀ y ∈ rowI q M x, 0 ≤ y := fun y hy => by
  obtain ⟨k, _, rfl⟩ := List.mem_map.1 hy
  exact (evalI_bd hq _ _).1
theorem colV_pos (hq : mayB q = true) (M : List (List Int)) (x : Int) : ∀ y ∈ colV q M x, 0 ≤ y := fun y hy => by
  obtain ⟨k, _, rfl⟩ := List.mem_map.1 hy
  exact (evalI_bd hq _ _).1
theorem meet_getD {α β : Type} (f : α → β) (l : List α) (s : Nat) (a : α) (b : β) (hs : s < l.length) : (l.map f)[s]?.getD b = f (l[s]?.getD a) := by simp [hs]
end
section
variable {p : Par} {t S : Nat} {F B : List (List (List Int))}
theorem rows_coms (hg : Good p) (ht : 0 < t) (h : Squares p.Q t S F B) {x : Int} (hx : 0 ≤ x) : rowComsI p (matI p F B) x = (rowsP p.Q F B t x).map fun c => c.map (commitI p) := by
  rw [(rows_all hg ht h.f h.b x hx).1, comsI_pairs p (by rw [List.length_map, List.length_map, h.f.1, h.b.1])]
  unfold rowsP
  rw [List.map_map, List.length_map]
  refine List.map_congr_left fun s hs => ?_
  have hs1 := List.mem_range.1 hs
  have hs2 : s < S := by rw [← h.f.1]; exact hs1
  obtain ⟨M, e1, s1⟩ := h.atF hs2
  obtain ⟨R, e2, s2⟩ := h.atB hs2
  show comI p ((F.map fun F => rowI p.Q F x)[s]?.getD [], (B.map fun B => rowI p.Q B x)[s]?.getD []) = (rowP p.Q F B t x s).map (commitI p)
  unfold rowP
  rw [List.getElem?_map, List.getElem?_map, e1, e2]
  exact comI_pairs p (rowI_sqL s1.l _ _) (rowI_sqL s2.l _ _)
theorem cols_coms (hg : Good p) (ht : 0 < t) (h : Squares p.Q t S F B) {x : Int} (hx : 0 ≤ x) : colComsI p (matI p F B) x = (colsP p.Q F B t x).map fun c => c.map (commitI p) := by
  rw [(rows_all hg ht h.f h.b x hx).2, comsI_pairs p (by rw [List.length_map, List.length_map, h.f.1, h.b.1])]
  unfold colsP
  rw [List.map_map, List.length_map]
  refine List.map_congr_left fun s hs => ?_
  have hs1 := List.mem_range.1 hs
  have hs2 : s < S := by rw [← h.f.1]; exact hs1
  obtain ⟨M, e1, s1⟩ := h.atF hs2
  obtain ⟨R, e2, s2⟩ := h.atB hs2
  show comI p ((F.map fun F => colV p.Q F x)[s]?.getD [], (B.map fun B => colV p.Q B x)[s]?.getD []) = (colP p.Q F B t x s).map (commitI p)
  unfold colP
  rw [List.getElem?_map, List.getElem?_map, e1, e2]
  exact comI_pairs p (colV_sqL s1.l _ _) (colV_sqL s2.l _ _)
/-- A point fits the matrix. -/
theorem point_fits (hm : mayP p = true) (ht : 0 < t) (h : Squares p.Q t S F B) {x y : Int} (hx : 0 ≤ x) (hy : 0 ≤ y) : fitsI p (rowComsI p (matI p F B) x) y ((rowsP p.Q F B t x).map (atP p.Q y)) = true := by
  have hg := good_of hm
  rw [(rows_all hg ht h.f h.b x hx).1]
  have e : (rowsP p.Q F B t x).map (atP p.Q y) = dealtI p (F.map fun F => rowI p.Q F x) (B.map fun B => rowI p.Q B x) y := by
    unfold rowsP dealtI
    rw [List.map_map, List.length_map]
    refine List.map_congr_left fun s hs => ?_
    have hs2 : s < S := by rw [← h.f.1]; exact List.mem_range.1 hs
    obtain ⟨M, e1, s1⟩ := h.atF hs2
    obtain ⟨R, e2, s2⟩ := h.atB hs2
    show atP p.Q y (rowP p.Q F B t x s) = _
    unfold rowP
    rw [List.getElem?_map, List.getElem?_map, e1, e2]
    exact atP_zip (rowI_sqL s1.l _ _) (rowI_sqL s2.l _ _)
  rw [e]
  refine deal_fits hm (t := t) (by rw [List.length_map, List.length_map, h.f.1, h.b.1]) (fun r hr => ?_) (fun r hr => ?_) hy
  · obtain ⟨M, hM, rfl⟩ := List.mem_map.1 hr
    exact ⟨rowI_sqL (h.f.2 M hM).l _ _, rowI_pos hg.Q M x⟩
  · obtain ⟨M, hM, rfl⟩ := List.mem_map.1 hr
    exact ⟨rowI_sqL (h.b.2 M hM).l _ _, rowI_pos hg.Q M x⟩
theorem twoL_pos {x q : Int} {dr : Nat → Int} {t k : Nat} (ht : 1 ≤ t) (hq : 0 < q) (hd : ∀ k, 0 ≤ dr k) : Sq t (twoL x q dr t k) := by
  obtain ⟨h1, h2⟩ := twoL_sq x q dr t k ht
  refine ⟨h1, fun r hr => ⟨h2 r hr, fun y hy => ?_⟩⟩
  obtain ⟨i, _, rfl⟩ := List.mem_map.1 hr
  have hy2 : y ∈ behI x q dr (t * t - 1) k := List.mem_of_mem_drop (List.mem_of_mem_take hy)
  simp only [behI, List.mem_cons, List.mem_map] at hy2
  rcases hy2 with rfl | ⟨j, _, rfl⟩
  · exact Int.emod_nonneg _ (by omega)
  · exact hd _
theorem make_squares {l : List (Int × Int)} {q : Int} {dr : Nat → Int} {t k n : Nat} (ht : 1 ≤ t) (hq : 0 < q) (hd : ∀ k, 0 ≤ dr k) : Squares q t n (makeFs l q dr t k n) (makeBs l q dr t k n) := by
  refine ⟨⟨by simp [makeFs], fun M hM => ?_⟩, ⟨by simp [makeBs], fun M hM => ?_⟩⟩
  · obtain ⟨i, _, rfl⟩ := List.mem_map.1 hM
    exact twoL_pos ht hq hd
  · obtain ⟨i, _, rfl⟩ := List.mem_map.1 hM
    exact twoL_pos ht hq hd
end
end Go.Proofs.YtnjkelojkoeihaaGreatDoor

namespace Go.Proofs.YtnjkelojkoeihaaGreatDoor
open Go Go.RowKit

/-- What n numbers come to, by weights. -/
def wS (q : Int) (x w : Nat → Int) : Nat → Int
  | 0 => 0
  | n + 1 => addI (wS q x w n) (mulI (w n) (x n) q) q
theorem wS_U64 (q : Int) (x w : Nat → Int) : ∀ n, U64 (wS q x w n)
  | 0 => ⟨Int.le_refl 0, by show (0 : Int) < 18446744073709551616; decide⟩
  | _ + 1 => addI_U64 _ _ _
theorem wS_dot {q : Int} (hq : mayB q = true) (x w : Nat → Int) : ∀ n, wS q x w n = dotZ ((List.range n).map x) ((List.range n).map w) % q
  | 0 => (Int.zero_emod q).symm
  | n + 1 => by
    show addI (wS q x w n) (mulI (w n) (x n) q) q = _
    rw [List.range_succ, List.map_append, List.map_append, dotZ_append _ _ _ _ (by simp), wS_dot hq x w n, addI_yes _ _ _ hq, mulI_yes _ _ _ hq]
    show _ = (dotZ ((List.range n).map x) ((List.range n).map w) + (x n * w n + 0)) % q
    have h : Cg q (dotZ ((List.range n).map x) ((List.range n).map w) % q + w n * x n % q) (dotZ ((List.range n).map x) ((List.range n).map w) + (x n * w n + 0)) := ((Cg.mod q _).add (Cg.mod q _)).trans (Cg.of_eq (by rw [Int.mul_comm (w n), Int.add_zero]))
    exact h
theorem range_get (l : List Int) : (List.range l.length).map (fun i => l[i]?.getD 0) = l := by
  refine List.ext_getElem (by simp) fun i h1 h2 => ?_
  simp [List.getElem?_eq_getElem h2]
theorem sum18_law {p : Par} (hm : mayP p = true) {t : Nat} (ht : (t : Int) = p.T + 1) {at_ f : List Int} (hpl : Places p.N at_) (hat : at_.length = t) (hf : f.length = t) : wS p.Q (fun i => evalI p.Q f (at_[i]?.getD 0)) (fun i => (wList p.Q at_ 0)[i]?.getD 0) t = f[0]?.getD 0 % p.Q := by
  obtain ⟨hq, hP, ha, n1, n2, n3, t1, t2, t3, hs, k1, d1⟩ := may_apart hm
  have hw := wlist_length hq ha n3 hpl (by omega) 0
  rw [wS_dot hq]
  have e1 : (List.range t).map (fun i => evalI p.Q f (at_[i]?.getD 0)) = at_.map fun i => evalI p.Q f i := by
    have := congrArg (List.map fun i => evalI p.Q f i) (range_get at_)
    rw [List.map_map, hat] at this
    exact this
  have e2 : (List.range t).map (fun i => (wList p.Q at_ 0)[i]?.getD 0) = wList p.Q at_ 0 := by
    have := range_get (wList p.Q at_ 0)
    rw [hw, hat] at this
    exact this
  rw [e1, e2]
  have h1 := dotZ_cg (fun i => evalI p.Q f i) (fun i => evZ i f) (fun i => evalI_cg' hq i f) at_ (wList p.Q at_ 0)
  exact h1.trans (lag hq ha n3 hpl (by omega) (by rw [hat, hf]))
/-- The members that the statement takes. -/
def some18I (n which : Int) (t : Nat) : List Int := (List.range t).map fun i : Nat => 1 + (which % 18446744073709551616 % n + (i : Int) * (1 + which % 18446744073709551616 / 7 % 2)) % n
theorem some18_in {n which : Int} (hn : 0 < n) {t : Nat} : ∀ x ∈ some18I n which t, 1 ≤ x ∧ x ≤ n := by
  intro x hx
  obtain ⟨i, _, rfl⟩ := List.mem_map.1 hx
  have h1 := Int.emod_nonneg (which % 18446744073709551616 % n + (i : Int) * (1 + which % 18446744073709551616 / 7 % 2)) (show n ≠ 0 by omega)
  have h2 := Int.emod_lt_of_pos (which % 18446744073709551616 % n + (i : Int) * (1 + which % 18446744073709551616 / 7 % 2)) hn
  omega
theorem some18_places {n which : Int} {t : Nat} (h : (t = 2 ∧ 4 ≤ n ∧ n ≤ 7) ∨ (t = 3 ∧ n = 7)) : Places n (some18I n which t) := by
  refine ⟨some18_in (by omega), ?_⟩
  unfold some18I
  obtain ⟨k, hk⟩ : ∃ k, k = which % 18446744073709551616 % n := ⟨_, rfl⟩
  obtain ⟨d, hd⟩ : ∃ d, d = 1 + which % 18446744073709551616 / 7 % 2 := ⟨_, rfl⟩
  have hd2 : d = 1 ∨ d = 2 := by omega
  rw [← hk, ← hd]
  clear hk hd
  rcases h with ⟨rfl, h4, h7⟩ | ⟨rfl, rfl⟩
  · have hn : n = 4 ∨ n = 5 ∨ n = 6 ∨ n = 7 := by omega
    rcases hn with rfl | rfl | rfl | rfl <;> rcases hd2 with rfl | rfl <;> simp [List.range_succ] <;> omega
  · rcases hd2 with rfl | rfl <;> simp [List.range_succ] <;> omega
end Go.Proofs.YtnjkelojkoeihaaGreatDoor

namespace Go.Proofs.YtnjkelojkoeihaaGreatDoor
open Go

section
variable {P : Program} {ops : Array Oper} {md : Region.Mode} {C : World → Prop} {n : Nat}

/-- Whatever row those below n are taken in; behind f of them, Q. -/
def AnyRow (P : Program) (md : Region.Mode) (ops : Array Oper) (C : World → Prop) (n : Nat) (Q : Array Bool → Act → Prop) : Nat → Array Bool → Act → Prop
  | 0, done, a => Q done a
  | f + 1, done, a => Region.ready md ops done ≠ [] ∧ ∀ i ∈ Region.ready md ops done, i < n ∧ qOp P ops C i (AnyRow P md ops C n Q f (done.setIfInBounds i true)) a

theorem AnyRow.run {Q : Array Bool → Act → Prop} {R : Exit → Act → World → Prop} {g : Nat} (hQ : ∀ done a w, C w → Q done a → wpAny P md ops R g done a w) :
    ∀ (f : Nat) (done : Array Bool) (a : Act) (w : World), C w → AnyRow P md ops C n Q f done a → wpAny P md ops R (f + g) done a w := by
  intro f
  induction f with
  | zero => intro done a w hw h; rw [Nat.zero_add]; exact hQ _ _ _ hw h
  | succ f ih =>
    intro done a w hw h
    rw [show f + 1 + g = (f + g) + 1 by omega]
    exact ⟨fun e => absurd e h.1, fun i hi => wpOp_of_qOp hw (fun a' w' hw' k => ih _ a' w' hw' k) (h.2 i hi).2⟩

/-- The operation n waits for each one ahead of it, and none stands behind it. -/
def waitsAll (md : Region.Mode) (ops : Array Oper) (n : Nat) : Bool := decide (ops.size = n + 1) && (List.range n).all fun i => Region.waitsFor md ops n i

theorem ready_below (h : waitsAll md ops n = true) {done : Array Bool} {i : Nat} (hi : i < n) (hu : done.getD i true = false) {t : Nat} (ht : t ∈ Region.ready md ops done) : t < n := by
  simp only [waitsAll, Bool.and_eq_true, decide_eq_true_eq] at h
  obtain ⟨_, o, ho, hall⟩ := mem_ready.1 ht
  have hlt : t < ops.size := (Array.getElem?_eq_some_iff.1 ho).1
  rcases Nat.lt_or_ge t n with h1 | h1
  · exact h1
  · have htn : t = n := by omega
    subst htn
    obtain ⟨o', ho', e, he, hb, hon⟩ := Region.waitsFor_spec (List.all_eq_true.1 h.2 i (List.mem_range.2 hi))
    have hoo : o' = o := Option.some.inj (ho'.symm.trans ho)
    subst hoo
    have := hall e he hb
    rw [hon, getD_both hu] at this
    cases this

/-- What may come first may as well come later. -/
theorem AnyRow.first {i : Nat} {oi : Oper} {v : Value} {Q : Array Bool → Act → Prop} (hi : ops[i]? = some oi) (hsel : ∀ (j : Nat) (o : Oper) cs b, ops[j]? = some o → o.op ≠ .select cs b) (hW : waitsAll md ops n = true) (hin : i < n)
    (hend : ∀ done a, Q done a → ∀ j ∈ Region.ready md ops done, n ≤ j) :
    ∀ (f : Nat) (done : Array Bool) (a : Act),
      (∀ j oj, ops[j]? = some oj → j ≠ i → done.getD j true = false → (∀ e ∈ oj.after, Region.binds md e = true → e.on ≠ i) → oi.apart ops oj = true) →
      i ∈ Region.ready md ops done → YieldsIn P ops C oi v a → AnyRow P md ops C n Q f (done.setIfInBounds i true) (a.put oi.dst v) → AnyRow P md ops C n Q (f + 1) done a := by
  intro f
  induction f with
  | zero =>
    intro done a _ hr hy H
    refine ⟨fun e => by rw [e] at hr; exact absurd hr (by simp), fun j hj => ⟨ready_below hW hin (mem_ready.1 hr).1 hj, ?_⟩⟩
    rcases Decidable.em (j = i) with e | e
    · subst e; exact hy.qOp hi H
    · have h1 := hend _ _ H j (ready_mono hj e)
      have h2 := ready_below hW hin (mem_ready.1 hr).1 hj
      omega
  | succ f ih =>
    intro done a hfree hr hy H
    refine ⟨fun e => by rw [e] at hr; exact absurd hr (by simp), fun j hj => ⟨ready_below hW hin (mem_ready.1 hr).1 hj, ?_⟩⟩
    rcases Decidable.em (j = i) with e | e
    · subst e; exact hy.qOp hi H
    · obtain ⟨hju, oj, hoj, hall⟩ := mem_ready.1 hj
      have hno : ∀ e ∈ oj.after, Region.binds md e = true → e.on ≠ i := fun e' he hb hx => by
        have := hall e' he hb
        rw [hx, getD_both (mem_ready.1 hr).1] at this
        cases this
      have step := qOp_put hoj (hfree j oj hoj e hju hno) (fun cs b => hsel i oi cs b hi) (fun cs b => hsel j oj cs b hoj) hy (H.2 j (ready_mono hj e)).2
      refine qOp_mono (fun a' k => ih (done.setIfInBounds j true) a' (fun m om hm hmi hmu hmn => hfree m om hm hmi ?_ hmn) (ready_mono hr (Ne.symm e)) k.1 ?_) step
      · rcases Decidable.em (j = m) with e' | e'
        · subst e'; exact hju
        · rwa [getD_set_ne true e'] at hmu
      · rw [Array.setIfInBounds_comm _ _ e]
        exact k.2

theorem AnyRow.lex {g : Nat} {Q : Act → Prop} (hsel : Region.noSelect ops = true) (hW : waitsAll md ops n = true) :
    ∀ (l : List Oper) (k : Nat) (done : Array Bool) (a : Act), (∀ j, j < l.length → l[j]? = ops[k + j]?) → k + l.length = n → Region.lexHead md ops g l.length k done = true → wpQuiet P ops C Q l a →
      AnyRow P md ops C n (fun done' a' => Region.seqB md ops g n done' = true ∧ Q a') l.length done a := by
  intro l
  induction l with
  | nil =>
    intro k done a _ hk hB h
    obtain rfl : k = n := by simpa using hk
    exact ⟨by simpa [Region.lexHead] using hB, h⟩
  | cons o l ih =>
    intro k done a hl hk hB h
    have h0 : ops[k]? = some o := by simpa using (hl 0 (by simp)).symm
    simp only [List.length_cons, Region.lexHead, Bool.and_eq_true] at hB
    simp only [List.length_cons] at hk
    have hq : qOp P ops C k (wpQuiet P ops C Q l) a := by unfold qOp; simp only [h0]; exact h
    obtain ⟨v, hy, hK⟩ := yieldsIn_of_qOp h0 hq
    exact AnyRow.first h0 (Region.noSelect_spec hsel) hW (by omega) (fun _ _ hd => seqB_ready hd.1) l.length done a (Region.free_spec h0 hB.1.2) (by simpa using hB.1.1) hy
      (ih (k + 1) _ _ (fun j hj => by have := hl (j + 1) (by simp; omega); simpa [Nat.add_assoc, Nat.add_comm 1 j] using this) (by omega) hB.2 hK)

def lastB (md : Region.Mode) (ops : Array Oper) (n : Nat) : Bool := Region.noSelect ops && waitsAll md ops n && Region.lexHead md ops 1 n 0 (Array.replicate ops.size false)
/-- The law, whatever the class of worlds. -/
theorem wp_region_last {C : World → Prop} {id : Nat} {Q : Exit → Act → World → Prop} {a : Act} {w : World} {l : List Oper} (n : Nat) (hm : P.follows .mixedOrders = true) (hB : lastB .any l.toArray n = true) (hC : C (w.drewN 1))
    (h : wpQuiet P l.toArray C (fun a' => ∀ w', C w' → wpList P l.toArray Q (l.drop n) a' w') (l.take n) a) : (Code.region id l.toArray true).wp P Q a w := by
  simp only [lastB, Bool.and_eq_true] at hB
  obtain ⟨⟨hsel, hW⟩, hlex⟩ := hB
  have hsz : l.toArray.size = n + 1 := by
    have := hW
    simp only [waitsAll, Bool.and_eq_true, decide_eq_true_eq] at this
    exact this.1
  have hsz' : l.length = n + 1 := by simpa using hsz
  have htl : (l.take n).length = n := by simp; omega
  have hdl : (l.drop n).length = 1 := by simp; omega
  have H := AnyRow.lex (C := C) (md := .any) (g := 1) hsel hW (l.take n) 0 _ a (fun j hj => by
    have hj' : j < n := by rw [htl] at hj; exact hj
    simp [hj']) (by simpa using htl) (by rw [htl]; exact hlex) h
  refine wp_region_any hm ?_
  have := AnyRow.run (R := Q) (g := 1) (fun done a' w' hw' hd => by
    have := wpAny_of_seq (md := .any) (Q' := Q) (l.drop n) n done a' w' (fun j => by simp [List.getElem?_drop]) (by rw [hdl]; exact hd.1) (hd.2 w' hw')
    rwa [hdl] at this) _ _ _ _ hC H
  rw [htl, ← hsz] at this
  exact this
/-- One operation of such a region: it yields v in every world of the class. -/
theorem wpQuiet_val {C : World → Prop} {Q : Act → Prop} {o : Oper} {rest : List Oper} {a : Act} (hgd : o.guard = none) (v : Value) (hv : ∀ w, C w → o.quietAt P a C w v) (h : wpQuiet P ops C Q rest (a.put o.dst v)) : wpQuiet P ops C Q (o :: rest) a := by
  refine wpQuiet_step fun K hK => ?_
  rw [if_pos (by simp [Region.wanted, hgd])]
  exact ⟨v, hv, hK _ h⟩
/-- The law. -/
theorem wp_region_quiet_last {id : Nat} {Q : Exit → Act → World → Prop} {a : Act} {w : World} {l : List Oper} (n : Nat) (hm : P.follows .mixedOrders = true) (hB : lastB .any l.toArray n = true)
    (h : wpQuiet P l.toArray (fun w' => ∃ k, w' = w.drewN k) (fun a' => ∀ w', (∃ k, w' = w.drewN k) → wpList P l.toArray Q (l.drop n) a' w') (l.take n) a) : (Code.region id l.toArray true).wp P Q a w := by
  simp only [lastB, Bool.and_eq_true] at hB
  obtain ⟨⟨hsel, hW⟩, hlex⟩ := hB
  have hsz : l.toArray.size = n + 1 := by
    have := hW
    simp only [waitsAll, Bool.and_eq_true, decide_eq_true_eq] at this
    exact this.1
  have hsz' : l.length = n + 1 := by simpa using hsz
  have htl : (l.take n).length = n := by simp; omega
  have hdl : (l.drop n).length = 1 := by simp; omega
  have H := AnyRow.lex (C := fun w' => ∃ k, w' = w.drewN k) (md := .any) (g := 1) hsel hW (l.take n) 0 _ a (fun j hj => by
    have hj' : j < n := by rw [htl] at hj; exact hj
    simp [hj']) (by simpa using htl) (by rw [htl]; exact hlex) h
  refine wp_region_any hm ?_
  have := AnyRow.run (R := Q) (g := 1) (fun done a' w' hw' hd => by
    have := wpAny_of_seq (md := .any) (Q' := Q) (l.drop n) n done a' w' (fun j => by simp [List.getElem?_drop]) (by rw [hdl]; exact hd.1) (hd.2 w' hw')
    rwa [hdl] at this) _ _ _ _ ⟨1, rfl⟩ H
  rw [htl, ← hsz] at this
  exact this
end
end Go.Proofs.YtnjkelojkoeihaaGreatDoor

namespace Go.Proofs.YtnjkelojkoeihaaGreatDoor
open Go Go.RowKit

/-- What the pairs of secrets have come to, behind i rows, and s numbers of the next. -/
def aS (q : Int) (ls : List (List (Int × Int))) (W : List Int) (k i : Nat) : Int × Int := (wS q (fun i => ((ls[i]?.getD [])[k]?.getD (0, 0)).1) (fun i => W[i]?.getD 0) i, wS q (fun i => ((ls[i]?.getD [])[k]?.getD (0, 0)).2) (fun i => W[i]?.getD 0) i)
def aL (q : Int) (ls : List (List (Int × Int))) (W : List Int) (nn i s : Nat) : List (Int × Int) := (List.range nn).map fun k => if k < s then aS q ls W k (i + 1) else aS q ls W k i
theorem aL_len (q : Int) (ls : List (List (Int × Int))) (W : List Int) (nn i s : Nat) : (aL q ls W nn i s).length = nn := by simp [aL]
theorem aL_zero (q : Int) (ls : List (List (Int × Int))) (W : List Int) (nn : Nat) : aL q ls W nn 0 0 = List.replicate nn (0, 0) := by
  refine List.ext_getElem (by simp [aL]) fun j h1 h2 => ?_
  simp [aL, aS, wS]
theorem aL_all (q : Int) (ls : List (List (Int × Int))) (W : List Int) (nn i : Nat) : aL q ls W nn i nn = aL q ls W nn (i + 1) 0 := by
  refine List.map_congr_left fun k hk => ?_
  have := List.mem_range.1 hk
  rw [if_pos this, if_neg (by omega)]
theorem aL_at (q : Int) (ls : List (List (Int × Int))) (W : List Int) (nn i s : Nat) (h : s < (aL q ls W nn i s).length) : (aL q ls W nn i s)[s] = aS q ls W s i := by simp [aL]
theorem aL_set (q : Int) (ls : List (List (Int × Int))) (W : List Int) (nn i s : Nat) : (aL q ls W nn i s).set s (aS q ls W s (i + 1)) = aL q ls W nn i (s + 1) := by
  refine List.ext_getElem (by simp [aL]) fun j h1 h2 => ?_
  rw [List.getElem_set]
  simp only [aL, List.getElem_map, List.getElem_range]
  split
  · rename_i e
    subst e
    rw [if_pos (by omega)]
  · rename_i e
    by_cases h : j < s
    · rw [if_pos h, if_pos (by omega)]
    · rw [if_neg h, if_neg (by omega)]
theorem aS_U64 (q : Int) (ls : List (List (Int × Int))) (W : List Int) (k i : Nat) : U64 (aS q ls W k i).1 ∧ U64 (aS q ls W k i).2 := ⟨wS_U64 _ _ _ _, wS_U64 _ _ _ _⟩
set_option maxRecDepth 100000 in
set_option maxHeartbeats 4000000 in
theorem sum18_any (p : Par) (va vl : Value) (at_ : List Int) (ls : List (List (Int × Int))) (X Y : Nat → Prop) (w : World) (t nn : Nat) (hm : mayP p = true) (hp : p.ok) (ha : Sl encI X w va at_) (hl : Sl (encS encP) Y w vl ls) (hpl : Places p.N at_) (hat : at_.length = t) (hlt : ls.length = t) (ht : 1 ≤ t ∧ t ≤ 3) (hr : ∀ x ∈ ls, x.length = nn) (hn : nn ≤ 10) :
    Calls Tryz.prog 16 #[p.v, va, vl] w fun e w' => ∃ v, e = .returned (.tuple #[v, .bool true]) ∧ Sl encP TT w' v ((List.range nn).map fun s => aS p.Q ls (wList p.Q at_ 0) s t) ∧ w.grownBy w' none := by
  obtain ⟨hq, hP, hap, n1, n2, n3, t1, t2, t3, hs, k1, d1⟩ := may_apart hm
  obtain ⟨ht1, ht3⟩ := ht
  have hwe := werr_zero hq hap n3 hpl (by omega) 0
  have hwl := wlist_length hq hap n3 hpl (by omega) 0
  have HQU : Hid (U64 p.Q) := Lib.hid hp.Q
  have HWL : Hid ((wList p.Q at_ 0).length = t) := Lib.hid (by rw [hwl, hat])
  have HIN : Hid (∀ i ∈ at_, 1 ≤ i ∧ i ≤ 7) := Lib.hid (fun i hi => by have := hpl.1 i hi; omega)
  obtain ⟨w0, hw0⟩ : ∃ y, y = w.alloc (Obj.cells p.cells 24) := ⟨_, rfl⟩
  have HG0 : Hid (w.grownBy w0 none) := Lib.hid (by rw [hw0]; exact World.grownBy_alloc w _ none)
  have HB0 : Hid (Bk w0 w.heap.size 24 p.cells) := Lib.hid (by rw [hw0]; exact Bk.new w _ _)
  have HA := Lib.hid (ha.kept HG0.out)
  have HL := Lib.hid ((hl.bounded.kept HG0.out).more fun _ _ h => h.2)
  have HRL := Lib.hid hr
  have HWT := Lib.hid (fun (u : Value) (Z : Nat → Prop) (w' : World) (h : Sl encU Z w' u at_) => weights_any u at_ 0 p.Q Z w' h ⟨by decide, by decide⟩ HQU.out)
  rw [hwe] at HWT
  obtain ⟨WL, hWL⟩ : ∃ y, y = wList p.Q at_ 0 := ⟨_, rfl⟩
  rw [← hWL] at HWT HWL ⊢
  obtain ⟨Aa, ca, rfl, _, _⟩ := ha.form
  obtain ⟨Al, cl, rfl, _, _⟩ := hl.form
  rw [hat] at HA ⊢
  rw [hlt] at HL ⊢
  have HAT := Lib.hid hat
  have HLT := Lib.hid hlt
  clear ha hl hpl hr hm hp hq hP hap n1 n2 n3 t1 t2 t3 hs k1 d1 hwe hwl hWL hat hlt
  go_enter Tryz.func16, Tryz.ntmps16
  go_wp2_with fail
  rw [← hw0]
  clear hw0
  go_loopg [8, 9] t (fun g s8 s9 wx => ∃ j : Nat, j + g = t ∧ s9 = .int .i64 j ∧ Hid (Acc encU w0.heap.size 22 (fun g => w0.heap.size ≤ g) wx s8 (at_.take j) ∧ w0.grownBy wx none))
  case atStart => exact ⟨0, by omega, rfl, Lib.hid ⟨Acc.nil _ _ _ _ _, World.grownBy.refl _ none⟩⟩
  case round =>
    obtain ⟨j, hj, rfl, HX⟩ := hrel
    have HAC := Lib.hid HX.out.1
    have HG := Lib.hid HX.out.2
    clear HX
    cases gk with
    | zero =>
      obtain rfl : j = t := by omega
      have hno : ¬ ((j : Int) < (j : Int)) := by omega
      have HXS : Hid (Sl encU (fun g => w0.heap.size ≤ g) wr u8 at_) := Lib.hid (by have := HAC.out.sl; rwa [← HAT.out, List.take_length] at this)
      have hp0 := (HB0.out.grown HG.out (by simp)).prule
      have HWC := Lib.hid (HWT.out u8 _ wr HXS.out)
      go_wp2_with fail
      refine HWC.out.mono ?_
      rintro e w1 ⟨v29, rfl, hs1, hg1⟩
      have HG1 : Hid (w0.grownBy w1 none) := Lib.hid (HG.out.trans hg1)
      obtain ⟨Aw, cw, ew, _, _⟩ := hs1.form
      rw [HWL.out] at ew
      subst ew
      have HW1 := Lib.hid hs1
      have h0j : 0 < ls.length := by rw [HLT.out]; omega
      obtain ⟨g0, o0, c0', u0, e0, _, _, hc0, hs0⟩ := (HL.out.kept HG1.out).atS h0j
      injection e0 with e01 e02 e03
      obtain ⟨A00, c00, e00, _, _⟩ := hs0.form
      rw [HRL.out _ (List.getElem_mem h0j)] at e00
      subst e00
      rw [Nat.add_zero] at hc0
      have hjpos : (0 : Int) < (j : Int) := by omega
      have hmk : ∀ w', (Instr.makeSlice 33 (.int .i64 (nn : Int)) (.int .i64 (nn : Int))).run Tryz.prog w' = .ok (.slice (some ⟨w'.heap.size, 0, none⟩) nn nn) (w'.alloc (.cells (madeCells #[.int .u64 0, .int .u64 0] (nn * 2)) 58)) := fun w' => by
        obtain ⟨i, hi, hz⟩ := Option.map_eq_some_iff.1 info_pair
        simp only [Prod.mk.injEq] at hz
        obtain ⟨hz1, hz2, hz3⟩ := hz
        have hr := run_make (P := Tryz.prog) w' 33 58 i _ Tryz.underlying33 hi hz1 .i64 .i64 (nn : Int) (nn : Int) (by omega) (Int.le_refl _) (by rw [hz3]; omega) (by omega)
        rw [hz2, Int.toNat_natCast] at hr
        exact hr
      have hmk1 := hmk w1
      obtain ⟨D0, hD0⟩ : ∃ y, y = w1.alloc (.cells (madeCells #[.int .u64 0, .int .u64 0] (nn * 2)) 58) := ⟨_, rfl⟩
      obtain ⟨Bo, hBo⟩ : ∃ y, y = w1.heap.size := ⟨_, rfl⟩
      have HGD : Hid (w1.grownBy D0 none) := Lib.hid (by rw [hD0]; exact World.grownBy_alloc _ _ none)
      have HBO : Hid (Bk D0 Bo 58 (pcs (aL p.Q ls WL nn 0 0)).toArray) := Lib.hid (by
        rw [hD0, hBo, aL_zero, ← made_pairs]
        exact Bk.new w1 _ _)
      have HBB : Hid (w.heap.size < Bo) := Lib.hid (by rw [hBo]; exact Nat.lt_of_lt_of_le HB0.out.lt HG1.out.size)
      have HPD : Hid (∀ wx, D0.grownBy wx (some Bo) → Bk wx w.heap.size 24 p.cells) := Lib.hid (fun wx hg => (HB0.out.grown (HG1.out.trans HGD.out) (by simp)).grown hg (fun e => by injection e with e; have := HBB.out; omega))
      have HWD : Hid (∀ wx, D0.grownBy wx (some Bo) → Sl encU (fun b => b < Bo) wx (.slice Aw j cw) WL) := Lib.hid (fun wx hg => ((HW1.out.bounded.kept HGD.out).more (Y := fun b => b < Bo) fun b _ hb => by rw [hBo]; exact hb.2).keep hg (fun b hb e => by injection e with e; omega))
      have HLD : Hid (∀ wx, D0.grownBy wx (some Bo) → Sl (encS encP) (fun b => b < w.heap.size) wx (.slice Al j cl) ls) := Lib.hid (fun wx hg => (HL.out.kept (HG1.out.trans HGD.out)).keep hg (fun b hb e => by injection e with e; have := HBB.out; omega))
      have HGW : Hid (w.grownBy D0 none) := Lib.hid (HG0.out.trans (HG1.out.trans HGD.out))
      have HBZ : Hid (w.heap.size ≤ Bo) := Lib.hid (by have := HBB.out; omega)
      subst e01
      clear hs1 hg1 hs0 hp0 e02 e03 hmk
      go_upto_region 11 with (fail)
      rw [← hD0, ← hBo]
      clear hD0 hBo hmk1 hc0
      go_loopg [13] j (fun g s13 wx => ∃ i : Nat, i + g = j ∧ s13 = .int .i64 i ∧ Hid (Bk wx Bo 58 (pcs (aL p.Q ls WL nn i 0)).toArray ∧ D0.grownBy wx (some Bo)))
      case atStart => exact ⟨0, by omega, rfl, Lib.hid ⟨HBO.out, World.grownBy.refl _ _⟩⟩
      case round =>
        rename World => wj
        obtain ⟨i, hi, rfl, HY⟩ := hrel
        cases gk with
        | zero =>
          obtain rfl : i = j := by omega
          have hno2 : ¬ ((i : Int) < (i : Int)) := by omega
          have HR : Hid (Sl encP TT wj (.slice (some ⟨Bo, 0, none⟩) nn nn) ((List.range nn).map fun s => aS p.Q ls WL s i) ∧ w.grownBy wj none) := Lib.hid ⟨by
            have hsl := sl_pcs HY.out.1 (fun x hx => by
              obtain ⟨k, _, rfl⟩ := List.mem_map.1 hx
              split
              · exact aS_U64 _ _ _ _ _
              · exact aS_U64 _ _ _ _ _) (by rw [aL_len]; omega)
            rw [aL_len] at hsl
            have he : aL p.Q ls WL nn i 0 = (List.range nn).map fun s => aS p.Q ls WL s i := List.map_congr_left fun k _ => if_neg (Nat.not_lt_zero k)
            rw [he] at hsl
            exact hsl, grown_up HGW.out HY.out.2 (fun b e => by injection e with e; have := HBZ.out; omega)⟩
          clear HY
          go_wp2
          go_ret2
          exact ⟨_, rfl, HR.out⟩
        | succ m =>
          have hiI : (i : Int) < (j : Int) := by omega
          go_wp2_with fail
          go_loopg [14] nn (fun g s14 wx => ∃ s : Nat, s + g = nn ∧ s14 = .int .i64 s ∧ Hid (Bk wx Bo 58 (pcs (aL p.Q ls WL nn i s)).toArray ∧ D0.grownBy wx (some Bo)))
          case atStart => exact ⟨0, by omega, rfl, HY⟩
          case round =>
            rename World => wi
            obtain ⟨s, hs, rfl, HZ⟩ := hrel
            cases gk with
            | zero =>
              obtain rfl : s = nn := by omega
              have hno3 : ¬ ((s : Int) < (s : Int)) := by omega
              have HFIN : Hid (Bk wi Bo 58 (pcs (aL p.Q ls WL s (i + 1) 0)).toArray ∧ D0.grownBy wi (some Bo)) := Lib.hid (by rw [← aL_all]; exact HZ.out)
              clear HZ HY
              go_wp2_with fail
              go_roundg m
              case measure => omega
              case rel => exact ⟨i + 1, by omega, by go_num, HFIN⟩
            | succ q =>
              have hsI : (s : Int) < (nn : Int) := by omega
              have hsA : s < (aL p.Q ls WL nn i s).length := by rw [aL_len]; omega
              have hiW : i < WL.length := by rw [HWL.out]; omega
              have hiL : i < ls.length := by rw [HLT.out]; omega
              have hs0 : (0 : Int) ≤ (s : Int) := Int.natCast_nonneg s
              have hi0 : (0 : Int) ≤ (i : Int) := Int.natCast_nonneg i
              obtain ⟨hbo, hgd⟩ := HZ.out
              have hbp := HPD.out _ hgd
              obtain ⟨gw, ow, cw', eW, hgw1, hgw, hcw, huw⟩ := (HWD.out _ hgd).atU hiW
              injection eW with eW1 eW2 eW3
              subst eW1 eW3
              obtain ⟨gl, ol, cl', ul, eL, _, hgl, hcl, hsl⟩ := (HLD.out _ hgd).atS hiL
              injection eL with eL1 eL2 eL3
              injection eL1 with eL1
              injection eL1 with eLa eLb _
              subst eLa eLb eL3
              have hlr := HRL.out _ (List.getElem_mem hiL)
              have hsr : s < ls[i].length := by rw [hlr]; omega
              obtain ⟨gr, orr, cr', eR, _, hgr, hcr1, hcr2, hur1, hur2⟩ := hsl.atP hsr
              subst eR
              obtain ⟨wv, hwv⟩ : ∃ y, y = WL[i] := ⟨_, rfl⟩
              obtain ⟨xs, hxs⟩ : ∃ y, y = ls[i][s] := ⟨_, rfl⟩
              rw [← hwv] at hcw huw
              rw [← hxs] at hcr1 hcr2 hur1 hur2
              have HN1 : Hid ((aS p.Q ls WL s (i + 1)).1 = addI (aS p.Q ls WL s i).1 (mulI wv xs.1 p.Q) p.Q ∧ (aS p.Q ls WL s (i + 1)).2 = addI (aS p.Q ls WL s i).2 (mulI wv xs.2 p.Q) p.Q) := Lib.hid (by
                rw [hwv, hxs]
                simp [aS, wS, List.getElem?_eq_getElem hiW, List.getElem?_eq_getElem hiL, List.getElem?_eq_getElem hsr])
              have HST : Hid ((aL p.Q ls WL nn i s)[s] = aS p.Q ls WL s i) := Lib.hid (aL_at _ _ _ _ _ _ hsA)
              have q0 : wi.cell? ⟨Bo, s * 2, none⟩ = some (.int .u64 (aS p.Q ls WL s i).1) := by
                rw [hbo.cell]
                have := pcs_get0 _ s hsA
                rw [HST.out] at this
                simpa using this
              have q1 : wi.cell? ⟨Bo, s * 2 + 1, none⟩ = some (.int .u64 (aS p.Q ls WL s i).2) := by
                rw [hbo.cell]
                have := pcs_get1 _ s hsA
                rw [HST.out] at this
                simpa using this
              have HU1 := Lib.hid (aS_U64 p.Q ls WL s i)
              have HUW := Lib.hid huw
              have HUX := Lib.hid (And.intro hur1 hur2)
              have HAS : Hid ((((pcs (aL p.Q ls WL nn i s)).set (s * 2) (.int .u64 (aS p.Q ls WL s (i + 1)).1)).set (s * 2 + 1) (.int .u64 (aS p.Q ls WL s (i + 1)).2)) = pcs (aL p.Q ls WL nn i (s + 1))) := Lib.hid (by
                rw [pcs_set0 _ _ s hsA, pcs_set1 _ _ s (by simpa using hsA), List.set_set, ← aL_set]
                simp)
              have hc1p : wi.cell? ⟨w.heap.size, 1, none⟩ = some (.int .u64 p.Q) := hbp.cell 1
              have HBO2 := Lib.hid hbo
              have HGD2 := Lib.hid hgd
              have HNB : Hid (gr ≠ Bo ∧ gw ≠ Bo ∧ w.heap.size ≠ Bo) := Lib.hid (by have := HBB.out; omega)
              obtain ⟨a1, ha1⟩ : ∃ y, y = (aS p.Q ls WL s i).1 := ⟨_, rfl⟩
              obtain ⟨a2, ha2⟩ : ∃ y, y = (aS p.Q ls WL s i).2 := ⟨_, rfl⟩
              rw [← ha1] at q0 HN1 HU1
              rw [← ha2] at q1 HN1 HU1
              clear ha1 ha2
              obtain ⟨x1, x2⟩ := xs
              obtain ⟨nr, hnr⟩ : ∃ y, y = ls[i].length := ⟨_, rfl⟩
              have hsrI : (s : Int) < (nr : Int) := by rw [hnr]; omega
              rw [← hnr] at hcl
              simp only at hcr1 hcr2 HN1 HUX
              have HM1 := Lib.hid (mulI_U64 wv x1 p.Q)
              have HM2 := Lib.hid (mulI_U64 wv x2 p.Q)
              have HKF : Hid (∀ W, wi.grownBy W (some Bo) → W.cell? ⟨w.heap.size, 1, none⟩ = some (.int .u64 p.Q) ∧ W.cell? ⟨gw, ow + i, none⟩ = some (.int .u64 wv) ∧ W.cell? ⟨g0, o0 + i, none⟩ = some (.slice (some ⟨gr, orr, none⟩) nr cr') ∧ W.cell? ⟨gr, orr + s * 2, none⟩ = some (.int .u64 x1) ∧ W.cell? ⟨gr, orr + s * 2 + 1, none⟩ = some (.int .u64 x2)) := Lib.hid (fun W hg => by
                have hb := HBB.out
                exact ⟨cellK hc1p hg (fun e => by injection e with e; omega), cellK hcw hg (fun e => by injection e with e; omega), cellK hcl hg (fun e => by injection e with e; omega), cellK hcr1 hg (fun e => by injection e with e; omega), cellK hcr2 hg (fun e => by injection e with e; omega)⟩)
              have HDR : Hid (wi.grownBy wi.drew none) := Lib.hid (grown_drewN' _ 1)
              have HQ0 : Hid ((pcs (aL p.Q ls WL nn i s)).toArray[s * 2]? = some (.int .u64 a1) ∧ (pcs (aL p.Q ls WL nn i s)).toArray[s * 2 + 1]? = some (.int .u64 a2)) := Lib.hid ⟨by rw [← hbo.cell]; exact q0, by rw [← hbo.cell]; exact q1⟩
              have HLF0 : Hid (∀ W, wi.drew.grownBy W none → W.cell? ⟨w.heap.size, 1, none⟩ = some (.int .u64 p.Q) ∧ W.cell? ⟨gw, ow + i, none⟩ = some (.int .u64 wv) ∧ W.cell? ⟨g0, o0 + i, none⟩ = some (.slice (some ⟨gr, orr, none⟩) nr cr') ∧ W.cell? ⟨gr, orr + s * 2, none⟩ = some (.int .u64 x1) ∧ W.cell? ⟨gr, orr + s * 2 + 1, none⟩ = some (.int .u64 x2) ∧ W.cell? ⟨Bo, s * 2, none⟩ = some (.int .u64 a1)) := Lib.hid (fun W hg => by
                have h := HDR.out.trans hg
                obtain ⟨k1, k2, k3, k4, k5⟩ := HKF.out W (h.but _)
                exact ⟨k1, k2, k3, k4, k5, by rw [(HBO2.out.grown h (by simp)).cell]; exact HQ0.out.1⟩)
              clear hbo hgd hbp hsl hlr hsr hwv hxs hur1 hur2 huw HST hsA hiW hiL hgw1 hgw hgl hgr hnr eW2 eL2 HZ HY hc1p hcw hcl hcr1 hcr2 q0 q1
              go_upto_region 16 with (fail)
              refine wp_region_mono 27 (by kernel_rfl) (by kernel_rfl) ?_
              -- op 0 (slot 55): move
              refine MonoR.step (Pv.eq (.slice (some ⟨Bo, 0, none⟩) nn nn)) [] (by kernel_rfl) (fun w' hw' => ?_) ?_
              · refine ask_do rfl fun K hK => ?_
                go_simp
                exact hK _ _ rfl rfl (World.grownBy.refl _ none)
              -- op 1 (slot 56): move
              refine MonoR.step (Pv.eq (.int .i64 (s : Int))) [] (by kernel_rfl) (fun w' hw' => ?_) ?_
              · refine ask_do rfl fun K hK => ?_
                go_simp
                exact hK _ _ rfl rfl (World.grownBy.refl _ none)
              -- op 2 (slot 57): move
              refine MonoR.step (Pv.eq (.slice (some ⟨Bo, 0, none⟩) nn nn)) [] (by kernel_rfl) (fun w' hw' => ?_) ?_
              · refine ask_do rfl fun K hK => ?_
                go_simp
                exact hK _ _ rfl rfl (World.grownBy.refl _ none)
              -- op 3 (slot 58): move
              refine MonoR.step (Pv.eq (.int .i64 (s : Int))) [] (by kernel_rfl) (fun w' hw' => ?_) ?_
              · refine ask_do rfl fun K hK => ?_
                go_simp
                exact hK _ _ rfl rfl (World.grownBy.refl _ none)
              -- op 4 (slot 59): indexAddr
              refine MonoR.step (Pv.eq (.pointer (some ⟨Bo, s * 2, none⟩))) [(2, 57), (3, 58)] (by kernel_rfl) (fun w' hw' => ?_) ?_
              · rintro _ rfl
                rintro _ rfl
                refine ask_do rfl fun K hK => ?_
                go_simp
                exact hK _ _ rfl rfl (World.grownBy.refl _ none)
              -- op 5 (slot 60): fieldAddr
              refine MonoR.step (Pv.eq (.pointer (some ⟨Bo, s * 2, none⟩))) [(4, 59)] (by kernel_rfl) (fun w' hw' => ?_) ?_
              · rintro _ rfl
                refine ask_do rfl fun K hK => ?_
                go_simp
                exact hK _ _ rfl rfl (World.grownBy.refl _ none)
              -- op 6 (slot 61): load
              refine MonoR.step (Pv.eq (.int .u64 a1)) [(5, 60)] (by kernel_rfl) (fun w' hw' => ?_) ?_
              · rintro _ rfl
                refine ask_do rfl fun K hK => ?_
                obtain ⟨q0, q1, q2, q3, q4, q5⟩ := HLF0.out w' hw'
                go_simp
                exact hK _ _ rfl rfl (World.grownBy.refl _ none)
              -- op 7 (slot 62): move
              refine MonoR.step (Pv.eq (.slice (some ⟨gw, ow, none⟩) j cw)) [] (by kernel_rfl) (fun w' hw' => ?_) ?_
              · refine ask_do rfl fun K hK => ?_
                go_simp
                exact hK _ _ rfl rfl (World.grownBy.refl _ none)
              -- op 8 (slot 63): move
              refine MonoR.step (Pv.eq (.int .i64 (i : Int))) [] (by kernel_rfl) (fun w' hw' => ?_) ?_
              · refine ask_do rfl fun K hK => ?_
                go_simp
                exact hK _ _ rfl rfl (World.grownBy.refl _ none)
              -- op 9 (slot 64): indexAddr
              refine MonoR.step (Pv.eq (.pointer (some ⟨gw, ow + i, none⟩))) [(7, 62), (8, 63)] (by kernel_rfl) (fun w' hw' => ?_) ?_
              · rintro _ rfl
                rintro _ rfl
                refine ask_do rfl fun K hK => ?_
                go_simp
                exact hK _ _ rfl rfl (World.grownBy.refl _ none)
              -- op 10 (slot 65): load
              refine MonoR.step (Pv.eq (.int .u64 wv)) [(9, 64)] (by kernel_rfl) (fun w' hw' => ?_) ?_
              · rintro _ rfl
                refine ask_do rfl fun K hK => ?_
                obtain ⟨q0, q1, q2, q3, q4, q5⟩ := HLF0.out w' hw'
                go_simp
                exact hK _ _ rfl rfl (World.grownBy.refl _ none)
              -- op 11 (slot 66): move
              refine MonoR.step (Pv.eq (.slice (some ⟨g0, o0, none⟩) j cl)) [] (by kernel_rfl) (fun w' hw' => ?_) ?_
              · refine ask_do rfl fun K hK => ?_
                go_simp
                exact hK _ _ rfl rfl (World.grownBy.refl _ none)
              -- op 12 (slot 67): move
              refine MonoR.step (Pv.eq (.int .i64 (i : Int))) [] (by kernel_rfl) (fun w' hw' => ?_) ?_
              · refine ask_do rfl fun K hK => ?_
                go_simp
                exact hK _ _ rfl rfl (World.grownBy.refl _ none)
              -- op 13 (slot 68): indexAddr
              refine MonoR.step (Pv.eq (.pointer (some ⟨g0, o0 + i, none⟩))) [(11, 66), (12, 67)] (by kernel_rfl) (fun w' hw' => ?_) ?_
              · rintro _ rfl
                rintro _ rfl
                refine ask_do rfl fun K hK => ?_
                go_simp
                exact hK _ _ rfl rfl (World.grownBy.refl _ none)
              -- op 14 (slot 69): load
              refine MonoR.step (Pv.eq (.slice (some ⟨gr, orr, none⟩) nr cr')) [(13, 68)] (by kernel_rfl) (fun w' hw' => ?_) ?_
              · rintro _ rfl
                refine ask_do rfl fun K hK => ?_
                obtain ⟨q0, q1, q2, q3, q4, q5⟩ := HLF0.out w' hw'
                go_simp
                exact hK _ _ rfl rfl (World.grownBy.refl _ none)
              -- op 15 (slot 70): move
              refine MonoR.step (Pv.eq (.int .i64 (s : Int))) [] (by kernel_rfl) (fun w' hw' => ?_) ?_
              · refine ask_do rfl fun K hK => ?_
                go_simp
                exact hK _ _ rfl rfl (World.grownBy.refl _ none)
              -- op 16 (slot 71): indexAddr
              refine MonoR.step (Pv.eq (.pointer (some ⟨gr, orr + s * 2, none⟩))) [(14, 69), (15, 70)] (by kernel_rfl) (fun w' hw' => ?_) ?_
              · rintro _ rfl
                rintro _ rfl
                refine ask_do rfl fun K hK => ?_
                go_simp
                exact hK _ _ rfl rfl (World.grownBy.refl _ none)
              -- op 17 (slot 72): fieldAddr
              refine MonoR.step (Pv.eq (.pointer (some ⟨gr, orr + s * 2, none⟩))) [(16, 71)] (by kernel_rfl) (fun w' hw' => ?_) ?_
              · rintro _ rfl
                refine ask_do rfl fun K hK => ?_
                go_simp
                exact hK _ _ rfl rfl (World.grownBy.refl _ none)
              -- op 18 (slot 73): load
              refine MonoR.step (Pv.eq (.int .u64 x1)) [(17, 72)] (by kernel_rfl) (fun w' hw' => ?_) ?_
              · rintro _ rfl
                refine ask_do rfl fun K hK => ?_
                obtain ⟨q0, q1, q2, q3, q4, q5⟩ := HLF0.out w' hw'
                go_simp
                exact hK _ _ rfl rfl (World.grownBy.refl _ none)
              -- op 19 (slot 74): fieldAddr
              refine MonoR.step (Pv.eq (.pointer (some ⟨w.heap.size, 1, none⟩))) [] (by kernel_rfl) (fun w' hw' => ?_) ?_
              · refine ask_do rfl fun K hK => ?_
                go_simp
                exact hK _ _ rfl rfl (World.grownBy.refl _ none)
              -- op 20 (slot 75): load
              refine MonoR.step (Pv.eq (.int .u64 p.Q)) [(19, 74)] (by kernel_rfl) (fun w' hw' => ?_) ?_
              · rintro _ rfl
                refine ask_do rfl fun K hK => ?_
                obtain ⟨q0, q1, q2, q3, q4, q5⟩ := HLF0.out w' hw'
                go_simp
                exact hK _ _ rfl rfl (World.grownBy.refl _ none)
              -- op 21 (slot 76): call
              refine MonoR.step (Pv.eq (.int .u64 (mulI wv x1 p.Q))) [(10, 65), (18, 73), (20, 75)] (by kernel_rfl) (fun w' hw' => ?_) ?_
              · rintro _ rfl
                rintro _ rfl
                rintro _ rfl
                refine ask_do rfl fun K hK => ?_
                go_simp
                refine (mul_gr wv x1 p.Q w' HUW.out HUX.out.1).mono ?_
                rintro e w3 ⟨rfl, hg⟩
                exact hK _ _ rfl rfl hg
              -- op 22 (slot 77): fieldAddr
              refine MonoR.step (Pv.eq (.pointer (some ⟨w.heap.size, 1, none⟩))) [] (by kernel_rfl) (fun w' hw' => ?_) ?_
              · refine ask_do rfl fun K hK => ?_
                go_simp
                exact hK _ _ rfl rfl (World.grownBy.refl _ none)
              -- op 23 (slot 78): load
              refine MonoR.step (Pv.eq (.int .u64 p.Q)) [(22, 77)] (by kernel_rfl) (fun w' hw' => ?_) ?_
              · rintro _ rfl
                refine ask_do rfl fun K hK => ?_
                obtain ⟨q0, q1, q2, q3, q4, q5⟩ := HLF0.out w' hw'
                go_simp
                exact hK _ _ rfl rfl (World.grownBy.refl _ none)
              -- op 24 (slot 79): call
              refine MonoR.step (Pv.eq (.int .u64 (addI a1 (mulI wv x1 p.Q) p.Q))) [(6, 61), (21, 76), (23, 78)] (by kernel_rfl) (fun w' hw' => ?_) ?_
              · rintro _ rfl
                rintro _ rfl
                rintro _ rfl
                refine ask_do rfl fun K hK => ?_
                go_simp
                refine (add_gr a1 (mulI wv x1 p.Q) p.Q w' HU1.out.1 HM1.out).mono ?_
                rintro e w3 ⟨rfl, hg⟩
                exact hK _ _ rfl rfl hg
              -- op 25 (slot 80): indexAddr
              refine MonoR.step (Pv.eq (.pointer (some ⟨Bo, s * 2, none⟩))) [(0, 55), (1, 56)] (by kernel_rfl) (fun w' hw' => ?_) ?_
              · rintro _ rfl
                rintro _ rfl
                refine ask_do rfl fun K hK => ?_
                go_simp
                exact hK _ _ rfl rfl (World.grownBy.refl _ none)
              -- op 26 (slot 81): fieldAddr
              refine MonoR.step (Pv.eq (.pointer (some ⟨Bo, s * 2, none⟩))) [(25, 80)] (by kernel_rfl) (fun w' hw' => ?_) ?_
              · rintro _ rfl
                refine ask_do rfl fun K hK => ?_
                go_simp
                exact hK _ _ rfl rfl (World.grownBy.refl _ none)
              
              intro w3 hw3
              intro y0 k0 y1 k1 y2 k2 y3 k3 y4 k4 y5 k5 y6 k6 y7 k7 y8 k8 y9 k9 y10 k10 y11 k11 y12 k12 y13 k13 y14 k14 y15 k15 y16 k16 y17 k17 y18 k18 y19 k19 y20 k20 y21 k21 y22 k22 y23 k23 y24 k24 y25 k25 y26 k26
              show wpList Tryz.prog _ _ _ _ w3
              simp only [Act.put, List.setIfInBounds_toArray, List.set_cons_zero, List.set_cons_succ]
              have e24 : y24 = .int .u64 (addI a1 (mulI wv x1 p.Q) p.Q) := k24
              have e26 : y26 = .pointer (some ⟨Bo, s * 2, none⟩) := k26
              subst e24 e26
              have HB3 : Hid (Bk w3 Bo 58 (pcs (aL p.Q ls WL nn i s)).toArray) := Lib.hid (HBO2.out.grown (HDR.out.trans hw3) (by simp))
              have HG3 : Hid (wi.grownBy w3 (some Bo)) := Lib.hid ((HDR.out.trans hw3).but _)
              have c3 : w3.cell? ⟨Bo, s * 2, none⟩ = some (.int .u64 a1) := by rw [HB3.out.cell]; exact HQ0.out.1
              have f3 := HB3.out.free
              clear hw3 k0 k1 k2 k3 k4 k5 k6 k7 k8 k9 k10 k11 k12 k13 k14 k15 k16 k17 k18 k19 k20 k21 k22 k23 k24 k25 k26
              go_upto_region 17 with (fail)
              obtain ⟨w4, hw4⟩ : ∃ y, y = w3.setCell ⟨Bo, s * 2, none⟩ (.int .u64 (addI a1 (mulI wv x1 p.Q) p.Q)) := ⟨_, rfl⟩
              rw [← hw4]
              have HB4 : Hid (Bk w4 Bo 58 ((pcs (aL p.Q ls WL nn i s)).toArray.setIfInBounds (s * 2) (.int .u64 (addI a1 (mulI wv x1 p.Q) p.Q)))) := Lib.hid (by rw [hw4]; exact HB3.out.set _ _)
              have HG4 : Hid (wi.grownBy w4 (some Bo)) := Lib.hid (by rw [hw4]; exact HG3.out.trans (grownSet w3 Bo _ _))
              clear hw4 c3 f3 HB3 HLF0
              have HDR4 : Hid (w4.grownBy w4.drew none) := Lib.hid (grown_drewN' _ 1)
              have HQ4 : Hid (((pcs (aL p.Q ls WL nn i s)).toArray.setIfInBounds (s * 2) (.int .u64 (addI a1 (mulI wv x1 p.Q) p.Q)))[s * 2 + 1]? = some (.int .u64 a2)) := Lib.hid (by rw [Array.getElem?_setIfInBounds_ne (by omega)]; exact HQ0.out.2)
              have HLF1 : Hid (∀ W, w4.drew.grownBy W none → W.cell? ⟨w.heap.size, 1, none⟩ = some (.int .u64 p.Q) ∧ W.cell? ⟨gw, ow + i, none⟩ = some (.int .u64 wv) ∧ W.cell? ⟨g0, o0 + i, none⟩ = some (.slice (some ⟨gr, orr, none⟩) nr cr') ∧ W.cell? ⟨gr, orr + s * 2, none⟩ = some (.int .u64 x1) ∧ W.cell? ⟨gr, orr + s * 2 + 1, none⟩ = some (.int .u64 x2) ∧ W.cell? ⟨Bo, s * 2 + 1, none⟩ = some (.int .u64 a2)) := Lib.hid (fun W hg => by
                have h := HDR4.out.trans hg
                obtain ⟨k1, k2, k3, k4, k5⟩ := HKF.out W (HG4.out.trans (h.but _))
                exact ⟨k1, k2, k3, k4, k5, by rw [(HB4.out.grown h (by simp)).cell]; exact HQ4.out⟩)
              refine wp_region_mono 27 (by kernel_rfl) (by kernel_rfl) ?_
              -- op 0 (slot 82): move
              refine MonoR.step (Pv.eq (.slice (some ⟨Bo, 0, none⟩) nn nn)) [] (by kernel_rfl) (fun w' hw' => ?_) ?_
              · refine ask_do rfl fun K hK => ?_
                go_simp
                exact hK _ _ rfl rfl (World.grownBy.refl _ none)
              -- op 1 (slot 83): move
              refine MonoR.step (Pv.eq (.int .i64 (s : Int))) [] (by kernel_rfl) (fun w' hw' => ?_) ?_
              · refine ask_do rfl fun K hK => ?_
                go_simp
                exact hK _ _ rfl rfl (World.grownBy.refl _ none)
              -- op 2 (slot 84): move
              refine MonoR.step (Pv.eq (.slice (some ⟨Bo, 0, none⟩) nn nn)) [] (by kernel_rfl) (fun w' hw' => ?_) ?_
              · refine ask_do rfl fun K hK => ?_
                go_simp
                exact hK _ _ rfl rfl (World.grownBy.refl _ none)
              -- op 3 (slot 85): move
              refine MonoR.step (Pv.eq (.int .i64 (s : Int))) [] (by kernel_rfl) (fun w' hw' => ?_) ?_
              · refine ask_do rfl fun K hK => ?_
                go_simp
                exact hK _ _ rfl rfl (World.grownBy.refl _ none)
              -- op 4 (slot 86): indexAddr
              refine MonoR.step (Pv.eq (.pointer (some ⟨Bo, s * 2, none⟩))) [(2, 84), (3, 85)] (by kernel_rfl) (fun w' hw' => ?_) ?_
              · rintro _ rfl
                rintro _ rfl
                refine ask_do rfl fun K hK => ?_
                go_simp
                exact hK _ _ rfl rfl (World.grownBy.refl _ none)
              -- op 5 (slot 87): fieldAddr
              refine MonoR.step (Pv.eq (.pointer (some ⟨Bo, s * 2 + 1, none⟩))) [(4, 86)] (by kernel_rfl) (fun w' hw' => ?_) ?_
              · rintro _ rfl
                refine ask_do rfl fun K hK => ?_
                go_simp
                exact hK _ _ rfl rfl (World.grownBy.refl _ none)
              -- op 6 (slot 88): load
              refine MonoR.step (Pv.eq (.int .u64 a2)) [(5, 87)] (by kernel_rfl) (fun w' hw' => ?_) ?_
              · rintro _ rfl
                refine ask_do rfl fun K hK => ?_
                obtain ⟨q0, q1, q2, q3, q4, q5⟩ := HLF1.out w' hw'
                go_simp
                exact hK _ _ rfl rfl (World.grownBy.refl _ none)
              -- op 7 (slot 89): move
              refine MonoR.step (Pv.eq (.slice (some ⟨gw, ow, none⟩) j cw)) [] (by kernel_rfl) (fun w' hw' => ?_) ?_
              · refine ask_do rfl fun K hK => ?_
                go_simp
                exact hK _ _ rfl rfl (World.grownBy.refl _ none)
              -- op 8 (slot 90): move
              refine MonoR.step (Pv.eq (.int .i64 (i : Int))) [] (by kernel_rfl) (fun w' hw' => ?_) ?_
              · refine ask_do rfl fun K hK => ?_
                go_simp
                exact hK _ _ rfl rfl (World.grownBy.refl _ none)
              -- op 9 (slot 91): indexAddr
              refine MonoR.step (Pv.eq (.pointer (some ⟨gw, ow + i, none⟩))) [(7, 89), (8, 90)] (by kernel_rfl) (fun w' hw' => ?_) ?_
              · rintro _ rfl
                rintro _ rfl
                refine ask_do rfl fun K hK => ?_
                go_simp
                exact hK _ _ rfl rfl (World.grownBy.refl _ none)
              -- op 10 (slot 92): load
              refine MonoR.step (Pv.eq (.int .u64 wv)) [(9, 91)] (by kernel_rfl) (fun w' hw' => ?_) ?_
              · rintro _ rfl
                refine ask_do rfl fun K hK => ?_
                obtain ⟨q0, q1, q2, q3, q4, q5⟩ := HLF1.out w' hw'
                go_simp
                exact hK _ _ rfl rfl (World.grownBy.refl _ none)
              -- op 11 (slot 93): move
              refine MonoR.step (Pv.eq (.slice (some ⟨g0, o0, none⟩) j cl)) [] (by kernel_rfl) (fun w' hw' => ?_) ?_
              · refine ask_do rfl fun K hK => ?_
                go_simp
                exact hK _ _ rfl rfl (World.grownBy.refl _ none)
              -- op 12 (slot 94): move
              refine MonoR.step (Pv.eq (.int .i64 (i : Int))) [] (by kernel_rfl) (fun w' hw' => ?_) ?_
              · refine ask_do rfl fun K hK => ?_
                go_simp
                exact hK _ _ rfl rfl (World.grownBy.refl _ none)
              -- op 13 (slot 95): indexAddr
              refine MonoR.step (Pv.eq (.pointer (some ⟨g0, o0 + i, none⟩))) [(11, 93), (12, 94)] (by kernel_rfl) (fun w' hw' => ?_) ?_
              · rintro _ rfl
                rintro _ rfl
                refine ask_do rfl fun K hK => ?_
                go_simp
                exact hK _ _ rfl rfl (World.grownBy.refl _ none)
              -- op 14 (slot 96): load
              refine MonoR.step (Pv.eq (.slice (some ⟨gr, orr, none⟩) nr cr')) [(13, 95)] (by kernel_rfl) (fun w' hw' => ?_) ?_
              · rintro _ rfl
                refine ask_do rfl fun K hK => ?_
                obtain ⟨q0, q1, q2, q3, q4, q5⟩ := HLF1.out w' hw'
                go_simp
                exact hK _ _ rfl rfl (World.grownBy.refl _ none)
              -- op 15 (slot 97): move
              refine MonoR.step (Pv.eq (.int .i64 (s : Int))) [] (by kernel_rfl) (fun w' hw' => ?_) ?_
              · refine ask_do rfl fun K hK => ?_
                go_simp
                exact hK _ _ rfl rfl (World.grownBy.refl _ none)
              -- op 16 (slot 98): indexAddr
              refine MonoR.step (Pv.eq (.pointer (some ⟨gr, orr + s * 2, none⟩))) [(14, 96), (15, 97)] (by kernel_rfl) (fun w' hw' => ?_) ?_
              · rintro _ rfl
                rintro _ rfl
                refine ask_do rfl fun K hK => ?_
                go_simp
                exact hK _ _ rfl rfl (World.grownBy.refl _ none)
              -- op 17 (slot 99): fieldAddr
              refine MonoR.step (Pv.eq (.pointer (some ⟨gr, orr + s * 2 + 1, none⟩))) [(16, 98)] (by kernel_rfl) (fun w' hw' => ?_) ?_
              · rintro _ rfl
                refine ask_do rfl fun K hK => ?_
                go_simp
                exact hK _ _ rfl rfl (World.grownBy.refl _ none)
              -- op 18 (slot 100): load
              refine MonoR.step (Pv.eq (.int .u64 x2)) [(17, 99)] (by kernel_rfl) (fun w' hw' => ?_) ?_
              · rintro _ rfl
                refine ask_do rfl fun K hK => ?_
                obtain ⟨q0, q1, q2, q3, q4, q5⟩ := HLF1.out w' hw'
                go_simp
                exact hK _ _ rfl rfl (World.grownBy.refl _ none)
              -- op 19 (slot 101): fieldAddr
              refine MonoR.step (Pv.eq (.pointer (some ⟨w.heap.size, 1, none⟩))) [] (by kernel_rfl) (fun w' hw' => ?_) ?_
              · refine ask_do rfl fun K hK => ?_
                go_simp
                exact hK _ _ rfl rfl (World.grownBy.refl _ none)
              -- op 20 (slot 102): load
              refine MonoR.step (Pv.eq (.int .u64 p.Q)) [(19, 101)] (by kernel_rfl) (fun w' hw' => ?_) ?_
              · rintro _ rfl
                refine ask_do rfl fun K hK => ?_
                obtain ⟨q0, q1, q2, q3, q4, q5⟩ := HLF1.out w' hw'
                go_simp
                exact hK _ _ rfl rfl (World.grownBy.refl _ none)
              -- op 21 (slot 103): call
              refine MonoR.step (Pv.eq (.int .u64 (mulI wv x2 p.Q))) [(10, 92), (18, 100), (20, 102)] (by kernel_rfl) (fun w' hw' => ?_) ?_
              · rintro _ rfl
                rintro _ rfl
                rintro _ rfl
                refine ask_do rfl fun K hK => ?_
                go_simp
                refine (mul_gr wv x2 p.Q w' HUW.out HUX.out.2).mono ?_
                rintro e w3 ⟨rfl, hg⟩
                exact hK _ _ rfl rfl hg
              -- op 22 (slot 104): fieldAddr
              refine MonoR.step (Pv.eq (.pointer (some ⟨w.heap.size, 1, none⟩))) [] (by kernel_rfl) (fun w' hw' => ?_) ?_
              · refine ask_do rfl fun K hK => ?_
                go_simp
                exact hK _ _ rfl rfl (World.grownBy.refl _ none)
              -- op 23 (slot 105): load
              refine MonoR.step (Pv.eq (.int .u64 p.Q)) [(22, 104)] (by kernel_rfl) (fun w' hw' => ?_) ?_
              · rintro _ rfl
                refine ask_do rfl fun K hK => ?_
                obtain ⟨q0, q1, q2, q3, q4, q5⟩ := HLF1.out w' hw'
                go_simp
                exact hK _ _ rfl rfl (World.grownBy.refl _ none)
              -- op 24 (slot 106): call
              refine MonoR.step (Pv.eq (.int .u64 (addI a2 (mulI wv x2 p.Q) p.Q))) [(6, 88), (21, 103), (23, 105)] (by kernel_rfl) (fun w' hw' => ?_) ?_
              · rintro _ rfl
                rintro _ rfl
                rintro _ rfl
                refine ask_do rfl fun K hK => ?_
                go_simp
                refine (add_gr a2 (mulI wv x2 p.Q) p.Q w' HU1.out.2 HM2.out).mono ?_
                rintro e w3 ⟨rfl, hg⟩
                exact hK _ _ rfl rfl hg
              -- op 25 (slot 107): indexAddr
              refine MonoR.step (Pv.eq (.pointer (some ⟨Bo, s * 2, none⟩))) [(0, 82), (1, 83)] (by kernel_rfl) (fun w' hw' => ?_) ?_
              · rintro _ rfl
                rintro _ rfl
                refine ask_do rfl fun K hK => ?_
                go_simp
                exact hK _ _ rfl rfl (World.grownBy.refl _ none)
              -- op 26 (slot 108): fieldAddr
              refine MonoR.step (Pv.eq (.pointer (some ⟨Bo, s * 2 + 1, none⟩))) [(25, 107)] (by kernel_rfl) (fun w' hw' => ?_) ?_
              · rintro _ rfl
                refine ask_do rfl fun K hK => ?_
                go_simp
                exact hK _ _ rfl rfl (World.grownBy.refl _ none)
              
              intro w5 hw5
              intro y0 k0 y1 k1 y2 k2 y3 k3 y4 k4 y5 k5 y6 k6 y7 k7 y8 k8 y9 k9 y10 k10 y11 k11 y12 k12 y13 k13 y14 k14 y15 k15 y16 k16 y17 k17 y18 k18 y19 k19 y20 k20 y21 k21 y22 k22 y23 k23 y24 k24 y25 k25 y26 k26
              show wpList Tryz.prog _ _ _ _ w5
              simp only [Act.put, List.setIfInBounds_toArray, List.set_cons_zero, List.set_cons_succ]
              have e24 : y24 = .int .u64 (addI a2 (mulI wv x2 p.Q) p.Q) := k24
              have e26 : y26 = .pointer (some ⟨Bo, s * 2 + 1, none⟩) := k26
              subst e24 e26
              have hb5 : Bk w5 Bo 58 ((pcs (aL p.Q ls WL nn i s)).toArray.setIfInBounds (s * 2) (.int .u64 (addI a1 (mulI wv x1 p.Q) p.Q))) := HB4.out.grown (HDR4.out.trans hw5) (by simp)
              have hg5 : wi.grownBy w5 (some Bo) := HG4.out.trans ((HDR4.out.trans hw5).but _)
              have c5 : w5.cell? ⟨Bo, s * 2 + 1, none⟩ = some (.int .u64 a2) := by rw [hb5.cell]; exact HQ4.out
              have f5 := hb5.free
              have HFIN : Hid (Bk (w5.setCell ⟨Bo, s * 2 + 1, none⟩ (.int .u64 (addI a2 (mulI wv x2 p.Q) p.Q))) Bo 58 (pcs (aL p.Q ls WL nn i (s + 1))).toArray ∧ D0.grownBy (w5.setCell ⟨Bo, s * 2 + 1, none⟩ (.int .u64 (addI a2 (mulI wv x2 p.Q) p.Q))) (some Bo)) := Lib.hid ⟨(hb5.set (s * 2 + 1) (.int .u64 (addI a2 (mulI wv x2 p.Q) p.Q))).of_eq (by
                rw [← HAS.out, HN1.out.1, HN1.out.2]
                simp), (HGD2.out.trans hg5).trans (grownSet w5 Bo _ _)⟩
              clear hw5 hb5 hg5 k0 k1 k2 k3 k4 k5 k6 k7 k8 k9 k10 k11 k12 k13 k14 k15 k16 k17 k18 k19 k20 k21 k22 k23 k24 k25 k26 HLF1
              go_wp2_with fail
              go_roundg q
              case measure => omega
              case rel => exact ⟨s + 1, by omega, by go_num, HFIN⟩
    | succ m =>
      have hjn : (j : Int) < (t : Int) := by omega
      have hjN : j < at_.length := by rw [HAT.out]; omega
      obtain ⟨g, o, c', e, _, _, hcu, _⟩ := (HA.out.kept HG.out).atI hjN
      injection e with e1 e2 e3
      subst e1 e3
      have hi := HIN.out _ (List.getElem_mem hjN)
      have HSN : Hid (at_.take (j + 1) = at_.take j ++ [at_[j]]) := Lib.hid (List.take_succ_eq_append_getElem hjN)
      have HU : Hid (U64 at_[j]) := Lib.hid ⟨by omega, by omega⟩
      have HLB : Hid (((at_.take j).length + 1) * 8 ≤ 140737488355328) := Lib.hid (by simp; omega)
      obtain ⟨hi1, hi2⟩ := hi
      generalize at_[j] = y at *
      have hcv : IntKind.u64.wrap y = y := IntWalk.u64_in _ (by omega)
      clear e2
      go_wp2_with (at_builtin; refine wpList_pushG rfl (.tmp 21) (.tmp 27) rfl (E := encU) el_u64 HG.out HAC.out (fun _ h => h) ⟨rfl, HU.out⟩ HLB.out rfl rfl ?_)
      intro v2 w2 hacc2 hg2 hgo
      have HFIN : Hid (Acc encU w0.heap.size 22 (fun g => w0.heap.size ≤ g) w2 v2 (at_.take (j + 1)) ∧ w0.grownBy w2 none) := Lib.hid ⟨by rw [HSN.out]; simpa using hacc2, hg2⟩
      clear hacc2 hg2 hgo
      go_wp2_with fail
      go_roundg m
      case measure => omega
      case rel => exact ⟨j + 1, by omega, by go_num, HFIN⟩
end Go.Proofs.YtnjkelojkoeihaaGreatDoor

namespace Go.Proofs.YtnjkelojkoeihaaGreatDoor
open Go Go.RowKit

def headI (M : List (List Int)) : Int := ((M[0]?.getD [])[0]?).getD 0
def bondOne (_p : Par) (m : List (List (List Int))) (sh : List Int) (s : Nat) : Bool := decide ((m[s]?.getD []).length ≠ 0) && decide (headI (m[s]?.getD []) = sh[s]?.getD 0)
def bondedB (p : Par) (m : List (List (List Int))) (coms : List (List Int)) (i : Int) : Bool := squareB p m && formedB p coms && (List.range coms.length).all (bondOne p m (shareI p coms i))
theorem square_shape {p : Par} {m : List (List (List Int))} (h : squareB p m = true) : (m.length : Int) = secretsI p ∧ ∀ M ∈ m, ∀ r ∈ M, r.length = M.length := by
  simp only [squareB, Bool.and_eq_true, decide_eq_true_eq, Bool.not_eq_true', List.any_eq_false] at h
  refine ⟨h.1, fun M hM r hr => ?_⟩
  have h1 := h.2 M hM
  simp only [sqBad, allB, Bool.not_eq_true'] at h1
  rw [Bool.not_eq_false] at h1
  simp only [Bool.and_eq_true, decide_eq_true_eq, Bool.not_eq_true', List.any_eq_false] at h1
  have h2 := h1.2 r hr
  simp only [rowBad, Bool.or_eq_true, decide_eq_true_eq, not_or, Decidable.not_not] at h2
  have := h1.1
  have := h2.1
  omega
set_option maxRecDepth 100000 in
set_option maxHeartbeats 1000000 in
theorem bonded_any (p : Par) (v1 v2 : Value) (m : List (List (List Int))) (coms : List (List Int)) (i : Int) (X Y : Nat → Prop) (w : World) (hp : p.ok) (h1 : Sl (encS (encS encU)) X w v1 m) (h2 : Sl (encS encU) Y w v2 coms) (hi : U64 i) (hb : coms.length ≤ 100000) :
    Calls Tryz.prog 19 #[p.v, v1, v2, .int .u64 i] w fun e w' => e = .returned (.bool (bondedB p m coms i)) ∧ w.grownBy w' none := by
  have H1 := Lib.hid h1
  have H2 := Lib.hid h2
  have HB : Hid (Bk (w.alloc (.cells p.cells 24)) w.heap.size 24 p.cells) := Lib.hid (Bk.new w _ _)
  have HG : Hid (w.grownBy (w.alloc (.cells p.cells 24)) none) := Lib.hid (World.grownBy_alloc w _ none)
  have HSQ := Lib.hid (fun w' (hw : w.grownBy w' none) => square_any p v1 m X w' hp (h1.kept hw))
  have HFO := Lib.hid (fun w' (hw : w.grownBy w' none) => formed_any p v2 coms Y w' hp (h2.kept hw))
  have HSH := Lib.hid (fun w' (hw : w.grownBy w' none) => share_any p v2 coms i Y w' (h2.kept hw) hi hb)
  obtain ⟨A1, c1, rfl, _, _⟩ := h1.form
  obtain ⟨A2, c2, rfl, _, _⟩ := h2.form
  clear h1 h2 hp hi
  cases hsq : squareB p m with
  | false =>
    have HR : Hid (bondedB p m coms i = false) := Lib.hid (by simp [bondedB, hsq])
    rw [hsq] at HSQ
    clear hsq
    go_enter Tryz.func19, Tryz.ntmps19
    go_wp2_with fail
    refine (HSQ.out _ HG.out).mono ?_
    rintro e w1 ⟨rfl, hg⟩
    have HG1 := hidTrans hg HG
    clear hg
    go_wp2
    go_ret
    exact ⟨ret_bool HR.out.symm, HG1.out⟩
  | true =>
    have HSS := Lib.hid (square_shape hsq)
    cases hfo : formedB p coms with
    | false =>
      have HR : Hid (bondedB p m coms i = false) := Lib.hid (by simp [bondedB, hfo])
      rw [hsq] at HSQ
      rw [hfo] at HFO
      clear hsq hfo
      go_enter Tryz.func19, Tryz.ntmps19
      go_wp2_with fail
      refine (HSQ.out _ HG.out).mono ?_
      rintro e w1 ⟨rfl, hg⟩
      have HG1 := hidTrans hg HG
      have hp1 := (bkGrown hg HB).out.prule
      clear hg
      go_wp2_with fail
      refine (HFO.out _ HG1.out).mono ?_
      rintro e w2 ⟨rfl, hg⟩
      have HG2 := hidTrans hg HG1
      clear hg hp1
      go_wp2
      go_ret
      exact ⟨ret_bool HR.out.symm, HG2.out⟩
    | true =>
      have HR : Hid (bondedB p m coms i = (List.range coms.length).all (bondOne p m (shareI p coms i))) := Lib.hid (by simp [bondedB, hfo, hsq])
      have HCL : Hid ((coms.length : Int) = secretsI p) := Lib.hid (by simp only [formedB, allB, Bool.and_eq_true, decide_eq_true_eq] at hfo; exact hfo.1)
      rw [hsq] at HSQ
      rw [hfo] at HFO
      clear hsq hfo
      obtain ⟨N, hN⟩ : ∃ N, N = coms.length := ⟨_, rfl⟩
      have HNL : Hid ((shareI p coms i).length = N) := Lib.hid (by simp [shareI, hN])
      have HML : Hid (m.length = N) := Lib.hid (by have := HSS.out.1; have := HCL.out; omega)
      rw [← hN] at HR
      have hN9 : N ≤ 100000 := by omega
      clear hN
      go_enter Tryz.func19, Tryz.ntmps19
      go_wp2_with fail
      refine (HSQ.out _ HG.out).mono ?_
      rintro e w1 ⟨rfl, hg⟩
      have HG1 := hidTrans hg HG
      have HB1 := bkGrown hg HB
      have hp1 := HB1.out.prule
      clear hg
      go_wp2_with fail
      refine (HFO.out _ HG1.out).mono ?_
      rintro e w2 ⟨rfl, hg⟩
      have HG2 := hidTrans hg HG1
      have HB2 := bkGrown hg HB1
      have hp2 := HB2.out.prule
      clear hg hp1
      go_wp2_with fail
      refine (HSH.out _ HG2.out).mono ?_
      rintro e w3 ⟨v3, rfl, h3, hg⟩
      have HG3 := hidTrans hg HG2
      obtain ⟨A3, c3, e3, _, _⟩ := h3.form
      rw [HNL.out] at e3
      subst e3
      have H3 := Lib.hid h3
      have HST : Hid (∀ q, q < 0 → bondOne p m (shareI p coms i) q = true) := Lib.hid (fun q h => absurd h (Nat.not_lt_zero _))
      clear hg hp2 h3
      go_wp2_with fail
      go_loopg [26] N (fun g s26 wx => ∃ j : Nat, j + g = N ∧ s26 = .int .i64 j ∧ Hid (wx = w3) ∧ Hid (∀ q, q < j → bondOne p m (shareI p coms i) q = true))
      case atStart => exact ⟨0, by omega, rfl, Lib.hid rfl, HST⟩
      case round =>
        obtain ⟨j, hj, rfl, HW, HX⟩ := hrel
        obtain rfl : w3 = wr := HW.out.symm
        cases gk with
        | zero =>
          obtain rfl : j = N := by omega
          have HE : Hid (bondedB p m coms i = true) := Lib.hid (by rw [HR.out, List.all_eq_true]; exact fun q hq => HX.out q (List.mem_range.1 hq))
          clear HX HST HW
          go_wp2
          go_ret
          exact ⟨ret_bool HE.out.symm, HG3.out⟩
        | succ k =>
          have hjn : (j : Int) < (N : Int) := by omega
          have hj0 : (0 : Int) ≤ (j : Int) := by omega
          have hjm : j < m.length := by rw [HML.out]; omega
          have hjs : j < (shareI p coms i).length := by rw [HNL.out]; omega
          have hjmI : (j : Int) < (m.length : Int) := by omega
          obtain ⟨g, o, c', e, _, _, hcu, _⟩ := H3.out.atU hjs
          injection e with e1 e2 e3
          subst e1 e3
          obtain ⟨g1, o1, c1', u, e, _, _, hcm, hsm⟩ := (H1.out.kept HG3.out).atS hjm
          injection e with e11 e12 e13
          subst e11 e13
          obtain ⟨A4, c4, e4, _, _⟩ := hsm.form
          have HB1 : Hid (bondOne p m (shareI p coms i) j = (decide (m[j].length ≠ 0) && decide (headI m[j] = (shareI p coms i)[j]))) := Lib.hid (by simp [bondOne, List.getElem?_eq_getElem hjm, List.getElem?_eq_getElem hjs])
          have HNO : Hid (bondOne p m (shareI p coms i) j = false → bondedB p m coms i = false) := Lib.hid (fun h => by
            rw [HR.out, List.all_eq_false]
            exact ⟨j, List.mem_range.2 (by omega), by simp [h]⟩)
          have HYE : Hid (bondOne p m (shareI p coms i) j = true → ∀ q, q < j + 1 → bondOne p m (shareI p coms i) q = true) := Lib.hid (fun h q hq => by
            rcases Nat.lt_or_ge q j with h1 | h1
            · exact HX.out q h1
            · obtain rfl : q = j := by omega
              exact h)
          have HROW := Lib.hid (HSS.out.2 m[j] (List.getElem_mem hjm))
          generalize (shareI p coms i)[j] = want at *
          generalize m[j] = M at *
          clear HX HST e2 e12
          by_cases hl0 : M.length = 0
          · have hd : ((M.length : Int) == 0) = true := by simp [hl0]
            have HNE : Hid (bondedB p m coms i = false) := Lib.hid (HNO.out (by rw [HB1.out]; simp [hl0]))
            subst e4
            clear hsm HB1 HNO HYE HROW
            go_wp2
            go_ret
            exact ⟨ret_bool HNE.out.symm, HG3.out⟩
          · have hd : ((M.length : Int) == 0) = false := by simp [hl0]
            have hM0 : 0 < M.length := by omega
            have hM0I : (0 : Int) < (M.length : Int) := by omega
            clear e4
            obtain ⟨g2, o2, c2', u2, eu, _, _, hcr, hsr⟩ := hsm.atS hM0
            subst eu
            have hr0 : 0 < M[0].length := by rw [HROW.out M[0] (List.getElem_mem hM0)]; exact hM0
            have hr0I : (0 : Int) < (M[0].length : Int) := by omega
            obtain ⟨g3, o3, c3', e5, _, _, hcx, _⟩ := hsr.atU hr0
            subst e5
            have HHD : Hid (headI M = M[0][0]) := Lib.hid (by simp [headI, List.getElem?_eq_getElem hM0, List.getElem?_eq_getElem hr0])
            have hB : bondOne p m (shareI p coms i) j = decide (M[0][0] = want) := by rw [HB1.out, HHD.out]; simp [hl0]
            have HBE := Lib.hid hB
            simp only [Nat.add_zero] at hcr hcx
            clear hsm hsr HB1 HROW HHD hB
            generalize M[0][0] = y at *
            generalize M[0].length = n0 at *
            generalize M.length = nM at *
            by_cases hyw : y = want
            · have hd2 : (y != want) = false := by simp [hyw]
              have HY2 := Lib.hid (HYE.out (by rw [HBE.out]; simp [hyw]))
              subst hyw
              clear HNO HYE HBE
              go_wp2_with fail
              go_roundg k
              case measure => omega
              case rel => exact ⟨j + 1, by omega, by go_num, Lib.hid rfl, HY2⟩
            · have hd2 : (y != want) = true := by simp [hyw]
              have HNE : Hid (bondedB p m coms i = false) := Lib.hid (HNO.out (by rw [HBE.out]; simp [hyw]))
              clear HNO HYE HBE
              go_wp2
              go_ret
              exact ⟨ret_bool HNE.out.symm, HG3.out⟩
end Go.Proofs.YtnjkelojkoeihaaGreatDoor

namespace Go.Proofs.YtnjkelojkoeihaaGreatDoor
open Go Go.RowKit

theorem chk_head {α : Type} (t : Nat) (l : List α) (k : Nat) (hk : 0 < k) : (chk t l k)[0]? = some (l.take t) := by simp [chk, hk]
theorem twoL_head {x q : Int} {dr : Nat → Int} {t k : Nat} (ht : 1 ≤ t) : ((twoL x q dr t k)[0]?.getD [])[0]?.getD 0 = x % q := by
  unfold twoL
  rw [chk_head _ _ _ (by omega), Option.getD_some, List.getElem?_take_of_lt (by omega)]
  rfl
/-- A polynomial's value at 0. -/
theorem eval_zero {q : Int} (hq : mayB q = true) (l : List Int) : evalI q l 0 = l[0]?.getD 0 % q := by
  have h1 := evalI_bd hq l 0
  have h2 := evalI_cg hq 0 l
  unfold Cg at h2
  rw [Int.emod_eq_of_lt h1.1 h1.2] at h2
  rw [h2]
  cases l with
  | nil => simp [polyZ]
  | cons y l => simp [polyZ]
theorem wS_congr' {q : Int} {x y w : Nat → Int} : ∀ n : Nat, (∀ i, i < n → x i = y i) → wS q x w n = wS q y w n
  | 0, _ => rfl
  | n + 1, h => by
    show addI (wS q x w n) (mulI (w n) (x n) q) q = addI (wS q y w n) (mulI (w n) (y n) q) q
    rw [wS_congr' n fun i hi => h i (by omega), h n (by omega)]
section
variable {p : Par} {t S : Nat} {F B : List (List (List Int))}
/-- The columns at 0. -/
theorem zero_cols (hq : mayB p.Q = true) (h : Squares p.Q t S F B) (x : Int) : (rowsP p.Q F B t x).map (atP p.Q 0) = dealtI p (F.map fun M => colV p.Q M 0) (B.map fun M => colV p.Q M 0) x := by
  rw [meets_law hq h]
  unfold colsP dealtI
  rw [List.map_map, List.length_map]
  refine List.map_congr_left fun s hs => ?_
  have hs2 : s < S := by rw [← h.f.1]; exact List.mem_range.1 hs
  obtain ⟨M, e1, s1⟩ := h.atF hs2
  obtain ⟨R, e2, s2⟩ := h.atB hs2
  show atP p.Q x (colP p.Q F B t 0 s) = _
  unfold colP
  rw [List.getElem?_map, List.getElem?_map, e1, e2]
  exact atP_zip (colV_sqL s1.l _ _) (colV_sqL s2.l _ _)
theorem col_head (hq : mayB p.Q = true) {M : List (List Int)} (h : SqL t M) (ht : 0 < t) : (colV p.Q M 0)[0]?.getD 0 = ((M[0]?.getD [])[0]?.getD 0) % p.Q := by
  have h0 : 0 < M.length := by rw [h.1]; exact ht
  unfold colV
  rw [List.getElem?_map, List.getElem?_eq_getElem h0]
  exact eval_zero hq _
/-- What the members' points of one secret come to. -/
theorem points_back (hm : mayP p = true) (ht : (t : Int) = p.T + 1) (h : Squares p.Q t S F B) {at_ : List Int} (hpl : Places p.N at_) (hat : at_.length = t) {s : Nat} (hs : s < S) :
    aS p.Q (at_.map fun x => (rowsP p.Q F B t x).map (atP p.Q 0)) (wList p.Q at_ 0) s t = ((((F[s]?.getD [])[0]?.getD [])[0]?.getD 0) % p.Q, (((B[s]?.getD [])[0]?.getD [])[0]?.getD 0) % p.Q) := by
  have hq := (good_of hm).Q
  have e0 : (at_.map fun x => (rowsP p.Q F B t x).map (atP p.Q 0)) = at_.map (dealtI p (F.map fun M => colV p.Q M 0) (B.map fun M => colV p.Q M 0)) := List.map_congr_left fun x _ => zero_cols hq h x
  rw [e0]
  obtain ⟨M, e1, s1⟩ := h.atF hs
  obtain ⟨R, e2, s2⟩ := h.atB hs
  have ht0 : 0 < t := by
    obtain ⟨_, _, _, _, _, _, t1, _⟩ := may_apart hm
    omega
  have hsF : s < F.length := by rw [h.f.1]; exact hs
  have key : ∀ i, i < t → ((at_.map (dealtI p (F.map fun M => colV p.Q M 0) (B.map fun M => colV p.Q M 0)))[i]?.getD [])[s]?.getD (0, 0) = (evalI p.Q (colV p.Q M 0) (at_[i]?.getD 0), evalI p.Q (colV p.Q R 0) (at_[i]?.getD 0)) := fun i hi => by
    have hi' : i < at_.length := by omega
    rw [List.getElem?_map, List.getElem?_eq_getElem hi']
    have f1 : F[s] = M := by
      have := List.getElem?_eq_getElem hsF
      rw [e1] at this
      injection this with this
      exact this.symm
    simp [dealtI, hsF, e2, f1]
  have c1 := sum18_law hm ht hpl hat (colV_sqL s1.l p.Q 0)
  have c2 := sum18_law hm ht hpl hat (colV_sqL s2.l p.Q 0)
  rw [col_head hq s1.l ht0, Int.emod_emod_of_dvd _ (Int.dvd_refl _)] at c1
  rw [col_head hq s2.l ht0, Int.emod_emod_of_dvd _ (Int.dvd_refl _)] at c2
  rw [e1, e2, Option.getD_some, Option.getD_some]
  unfold aS
  rw [← c1, ← c2]
  refine Prod.ext ?_ ?_
  · exact wS_congr' t fun i hi => by rw [key i hi]
  · exact wS_congr' t fun i hi => by rw [key i hi]
end
end Go.Proofs.YtnjkelojkoeihaaGreatDoor

namespace Go.Proofs.YtnjkelojkoeihaaGreatDoor
open Go Go.RowKit

/-- The secrets that the statement takes. -/
def own18 (l : List Int) (s : Nat) : Int := if 0 < l.length then l[s % l.length]?.getD 0 else (s : Int)
def sec18 (l : List Int) (n : Nat) : List Int := (List.range n).map (own18 l)
theorem own18_U64 {l : List Int} {X : Nat → Prop} {w : World} {v : Value} (h : Sl encU X w v l) {a : Nat} (ha : a ≤ 100000) : U64 (own18 l a) := by
  unfold own18
  split
  · rename_i h0
    have hk : a % l.length < l.length := Nat.mod_lt _ h0
    obtain ⟨_, _, _, _, _, _, _, u⟩ := h.atU hk
    rw [List.getElem?_eq_getElem hk]
    exact u
  · exact ⟨by omega, by omega⟩
theorem m18_snoc {α : Type} (f : Nat → α) (n : Nat) : (List.range (n + 1)).map f = (List.range n).map f ++ [f n] := by simp [List.range_succ]
set_option maxHeartbeats 1000000 in
theorem secrets18_any (p : Par) (v : Value) (l : List Int) (X : Nat → Prop) (w : World) (nn : Nat) (hn : (nn : Int) = secretsI p) (hn10 : nn ≤ 10) (h : Sl encU X w v l) :
    Calls Tryz.prog 48 #[p.v, v] w (Gives encU (fun g => w.heap.size ≤ g) w (sec18 l nn)) := by
  have HB0 : Hid (Bk (w.alloc (Obj.cells p.cells 24)) w.heap.size 24 p.cells) := Lib.hid (Bk.new w _ _)
  obtain ⟨w0, hw0⟩ : ∃ y, y = w.alloc (Obj.cells p.cells 24) := ⟨_, rfl⟩
  have HG0 : Hid (w.grownBy w0 none) := Lib.hid (by rw [hw0]; exact World.grownBy_alloc w _ none)
  rw [← hw0] at HB0
  have H := Lib.hid (h.kept HG0.out)
  have HSEC := Lib.hid (secrets20_any p)
  rw [← hn] at HSEC
  obtain ⟨A, c, rfl, hc1, hc2⟩ := h.form
  clear h hn
  go_enter Tryz.func48, Tryz.ntmps48
  go_wp2_with fail
  rw [← hw0]
  clear hw0
  go_loopg [5, 6] nn (fun g s5 s6 wx => ∃ j : Nat, j + g = nn ∧ s6 = .int .i64 j ∧ Hid (Acc encU w0.heap.size 22 (fun g => w0.heap.size ≤ g) wx s5 (sec18 l j) ∧ w0.grownBy wx none))
  case atStart => exact ⟨0, by omega, rfl, Lib.hid ⟨Acc.nil _ _ _ _ _, World.grownBy.refl _ none⟩⟩
  case round =>
    obtain ⟨j, hj, rfl, HX⟩ := hrel
    have HG := Lib.hid HX.out.2
    have HA := Lib.hid HX.out.1
    have hp := (HB0.out.grown HG.out (by simp)).prule
    clear HX
    cases gk with
    | zero =>
      obtain rfl : j = nn := by omega
      have hno : ¬ ((j : Int) < (j : Int)) := by omega
      go_wp2_with fail
      refine (HSEC.out _).mono ?_
      rintro e w1 ⟨rfl, hg⟩
      have HR : Hid (Sl encU (fun g => w.heap.size ≤ g) w1 u5 (sec18 l j) ∧ w.grownBy w1 none) := Lib.hid ⟨(HA.out.sl.kept hg).more fun g _ h => Nat.le_trans HG0.out.size h, HG0.out.trans (HG.out.trans hg)⟩
      clear hg hp
      go_wp2
      go_ret
      exact ⟨_, rfl, HR.out.1, HR.out.2⟩
    | succ m =>
      have hjn : (j : Int) < (nn : Int) := by omega
      have HSN : Hid (sec18 l (j + 1) = sec18 l j ++ [own18 l j]) := Lib.hid (m18_snoc _ _)
      have HU : Hid (U64 (own18 l j)) := Lib.hid (own18_U64 H.out (by omega))
      have HLB : Hid (((sec18 l j).length + 1) * 8 ≤ 140737488355328) := Lib.hid (by simp [sec18]; omega)
      have hcv : IntKind.u64.wrap (j : Int) = (j : Int) := IntWalk.u64_in _ (by omega)
      go_wp2_with fail
      refine (HSEC.out _).mono ?_
      rintro e w1 ⟨rfl, hg⟩
      have HG1 : Hid (w0.grownBy w1 none) := Lib.hid (HG.out.trans hg)
      have HA1 := Lib.hid (HA.out.kept hg)
      clear hg hp
      by_cases h0 : 0 < l.length
      · have hI : (0 : Int) < (l.length : Int) := by omega
        have hk : j % l.length < l.length := Nat.mod_lt _ h0
        obtain ⟨kq, hkq⟩ : ∃ q, q = j % l.length := ⟨_, rfl⟩
        have hkI : (kq : Int) < (l.length : Int) := by rw [hkq]; omega
        have d1 : Int.tmod (j : Int) (l.length : Int) = (kq : Int) := by rw [Int.tmod_eq_emod_of_nonneg (by omega), hkq]; exact (Int.natCast_emod j l.length).symm
        have d2 : (j : Int) % (l.length : Int) = (kq : Int) := by rw [hkq]; exact (Int.natCast_emod j l.length).symm
        have hnz : ¬ (l.length : Int) = 0 := by omega
        obtain ⟨g, o, c', e, _, _, hcu, _⟩ := (H.out.kept HG1.out).atU hk
        injection e with e1 e2 e3
        subst e1 e3
        have hov : own18 l j = l[j % l.length] := by rw [own18, if_pos h0, List.getElem?_eq_getElem hk]; rfl
        rw [hov] at HSN HU
        generalize l[j % l.length] = x at *
        rw [← hkq] at hcu
        clear hk hkq hov h0 e2
        go_wp2_with (at_builtin; refine wpList_pushG rfl (.tmp 26) (.tmp 28) rfl (E := encU) (y := x) el_u64 HG1.out HA1.out (fun _ h => h) ⟨rfl, HU.out⟩ HLB.out rfl rfl ?_)
        intro v2 w2 hacc2 hg2 hgo
        have HFIN : Hid (Acc encU w0.heap.size 22 (fun g => w0.heap.size ≤ g) w2 v2 (sec18 l (j + 1)) ∧ w0.grownBy w2 none) := Lib.hid ⟨by rw [HSN.out]; exact hacc2, hg2⟩
        clear hacc2 hg2 hgo
        go_wp2_with fail
        go_roundg m
        case measure => omega
        case rel => exact ⟨j + 1, by omega, by go_num, HFIN⟩
      · have hI : ¬ (l.length : Int) > 0 := by omega
        have hov : own18 l j = (j : Int) := by rw [own18, if_neg h0]
        rw [hov] at HSN HU
        clear hov h0
        go_wp2_with (at_builtin; refine wpList_pushG rfl (.tmp 26) (.tmp 28) rfl (E := encU) (y := (j : Int)) el_u64 HG1.out HA1.out (fun _ h => h) ⟨rfl, HU.out⟩ HLB.out rfl rfl ?_)
        intro v2 w2 hacc2 hg2 hgo
        have HFIN : Hid (Acc encU w0.heap.size 22 (fun g => w0.heap.size ≤ g) w2 v2 (sec18 l (j + 1)) ∧ w0.grownBy w2 none) := Lib.hid ⟨by rw [HSN.out]; exact hacc2, hg2⟩
        clear hacc2 hg2 hgo
        go_wp2_with fail
        go_roundg m
        case measure => omega
        case rel => exact ⟨j + 1, by omega, by go_num, HFIN⟩
set_option maxRecDepth 100000 in
set_option maxHeartbeats 2000000 in
theorem some18_any (p : Par) (n which : Int) (t : Nat) (w : World) (ht : (t : Int) = p.T + 1) (h : (t = 2 ∧ 4 ≤ n ∧ n ≤ 7) ∨ (t = 3 ∧ n = 7)) (_hw : I64 which) :
    Calls Tryz.prog 15 #[p.v, .int .i64 n, .int .i64 which] w (Gives encI (fun g => w.heap.size ≤ g) w (some18I n which t)) := by
  have hn4 : 4 ≤ n ∧ n ≤ 7 := by omega
  have ht3 : t ≤ 3 := by omega
  obtain ⟨hn1, hn2⟩ := hn4
  have HPL := Lib.hid (some18_places (which := which) h)
  have HTT := Lib.hid ht
  have HB0 : Hid (Bk (w.alloc (Obj.cells p.cells 24)) w.heap.size 24 p.cells) := Lib.hid (Bk.new w _ _)
  obtain ⟨w0, hw0⟩ : ∃ y, y = w.alloc (Obj.cells p.cells 24) := ⟨_, rfl⟩
  have HG0 : Hid (w.grownBy w0 none) := Lib.hid (by rw [hw0]; exact World.grownBy_alloc w _ none)
  rw [← hw0] at HB0
  obtain ⟨r, hr⟩ : ∃ r, r = (which % 18446744073709551616) % n := ⟨_, rfl⟩
  obtain ⟨d, hd⟩ : ∃ d, d = which % 18446744073709551616 / 7 % 2 := ⟨_, rfl⟩
  have hr1 : 0 ≤ r := by rw [hr]; exact Int.emod_nonneg _ (by omega)
  have hr2 : r < n := by rw [hr]; exact Int.emod_lt_of_pos _ (by omega)
  have hd1 : 0 ≤ d := by omega
  have hd2 : d < 2 := by omega
  have HS : Hid (some18I n which t = (List.range t).map fun i : Nat => 1 + (r + (i : Int) * (1 + d)) % n) := Lib.hid (by rw [hr, hd]; rfl)
  have e1 : IntKind.u64.wrap which = which % 18446744073709551616 := rfl
  have e2 : IntKind.u64.wrap n = n := IntWalk.u64_in _ (by omega)
  have e3 : Int.tmod (which % 18446744073709551616) n = r := by rw [hr]; exact Int.tmod_eq_emod_of_nonneg (by omega)
  have e3' : which % 18446744073709551616 % n = r := hr.symm
  have e4 : IntKind.i64.wrap r = r := IntWalk.i64_in _ (by omega)
  have e5 : Int.tdiv (which % 18446744073709551616) 7 = which % 18446744073709551616 / 7 := Int.tdiv_eq_ediv_of_nonneg (by omega)
  have e6 : Int.tmod (which % 18446744073709551616 / 7) 2 = d := by rw [hd]; exact Int.tmod_eq_emod_of_nonneg (by omega)
  have e6' : which % 18446744073709551616 / 7 % 2 = d := hd.symm
  have e7 : IntKind.i64.wrap d = d := IntWalk.i64_in _ (by omega)
  have hnz : (n == 0) = false := by simp; omega
  clear hr hd ht h
  go_enter Tryz.func15, Tryz.ntmps15
  go_wp2_with fail
  rw [← hw0]
  clear hw0
  obtain ⟨L, hL⟩ : ∃ y, y = some18I n which t := ⟨_, rfl⟩
  have HLE := Lib.hid hL
  rw [← hL] at HPL HS
  clear hL
  go_loopg [7, 9] t (fun g s7 s9 wx => ∃ j : Nat, j + g = t ∧ s9 = .int .i64 j ∧ Hid (Acc encI w0.heap.size 3 (fun g => w0.heap.size ≤ g) wx s7 ((List.range j).map fun i : Nat => 1 + (r + (i : Int) * (1 + d)) % n) ∧ w0.grownBy wx none))
  case atStart => exact ⟨0, by omega, rfl, Lib.hid ⟨Acc.nil _ _ _ _ _, World.grownBy.refl _ none⟩⟩
  case round =>
    obtain ⟨j, hj, rfl, HX⟩ := hrel
    have HA := Lib.hid HX.out.1
    have HG := Lib.hid HX.out.2
    have hp := (HB0.out.grown HG.out (by simp)).prule
    clear HX
    cases gk with
    | zero =>
      obtain rfl : j = t := by omega
      have hno : ¬ ((j : Int) ≤ p.T) := by have := HTT.out; omega
      have HO : Hid (Sl encI (fun g => w0.heap.size ≤ g) wr u7 L) := Lib.hid (by rw [HS.out]; exact HA.out.sl)
      have hLl : L.length = j := by rw [HS.out]; simp
      obtain ⟨A, c, e, _, _⟩ := HO.out.form
      rw [hLl] at e
      subst e
      have HLL := Lib.hid hLl
      clear hLl HA
      go_wp2_with fail
      go_loopg [7, 10] j (fun g s7 s10 wx => ∃ i : Nat, i + g = j ∧ s10 = .int .i64 i ∧ s7 = .slice A j c ∧ Hid (wr.grownBy wx none))
      case atStart => exact ⟨0, by omega, rfl, rfl, Lib.hid (World.grownBy.refl _ none)⟩
      case round =>
        rename World => wa
        obtain ⟨i, hi, rfl, rfl, HY⟩ := hrel
        cases gk with
        | zero =>
          obtain rfl : i = j := by omega
          have hno2 : ¬ ((i : Int) < (i : Int)) := by omega
          have HR : Hid (Sl encI (fun g => w.heap.size ≤ g) wa (.slice A i c) L ∧ w.grownBy wa none) := Lib.hid ⟨(HO.out.kept HY.out).more fun g _ h => Nat.le_trans HG0.out.size h, HG0.out.trans (HG.out.trans HY.out)⟩
          clear HY hp
          go_wp2
          go_ret
          exact ⟨_, rfl, by rw [← HLE.out]; exact HR.out.1, HR.out.2⟩
        | succ m =>
          have hiI : (i : Int) < (j : Int) := by omega
          go_wp2_with fail
          go_loopg [7, 11] i (fun g s7 s11 wx => ∃ k : Nat, k + g = i ∧ s11 = .int .i64 k ∧ s7 = .slice A j c ∧ Hid (wr.grownBy wx none))
          case atStart => exact ⟨0, by omega, rfl, rfl, HY⟩
          case round =>
            rename World => wb
            obtain ⟨k, hk, rfl, rfl, HZ⟩ := hrel
            cases gk with
            | zero =>
              obtain rfl : k = i := by omega
              have hno3 : ¬ ((k : Int) < (k : Int)) := by omega
              go_wp2_with fail
              go_roundg m
              case measure => omega
              case rel => exact ⟨k + 1, by omega, by go_num, rfl, HZ⟩
            | succ q =>
              have hkI : (k : Int) < (i : Int) := by omega
              have hkJ : (k : Int) < (j : Int) := by omega
              have hiL : i < L.length := by rw [HLL.out]; omega
              have hkL : k < L.length := by rw [HLL.out]; omega
              obtain ⟨g1, o1, c1, e1, _, _, hc1, _⟩ := (HO.out.kept HZ.out).atI hiL
              injection e1 with e11 e12 e13
              subst e11 e13
              obtain ⟨g2, o2, c2, e2, _, _, hc2, _⟩ := (HO.out.kept HZ.out).atI hkL
              injection e2 with e21 e22 e23
              injection e21 with e21
              injection e21 with e24 e25 _
              subst e24 e25
              have hne : (L[i] == L[k]) = false := by
                rw [beq_eq_false_iff_ne]
                intro e
                have := (List.getElem?_inj (i := i) (j := k) hiL HPL.out.2).1 (by rw [List.getElem?_eq_getElem hiL, List.getElem?_eq_getElem hkL, e])
                omega
              have hk0 : (0 : Int) ≤ (k : Int) := Int.natCast_nonneg k
              have hi0 : (0 : Int) ≤ (i : Int) := Int.natCast_nonneg i
              have HZG : Hid (∀ nq, wr.grownBy (wb.drewN nq) none) := Lib.hid (fun nq => HZ.out.trans (grown_drewN' _ nq))
              generalize L[i] = xi at *
              generalize L[k] = xk at *
              clear hiL hkL e12 e22 e23
              go_wp2_with fail
              go_quiet (fail)
              go_wp2_with fail
              go_roundg q
              case measure => omega
              case rel => exact ⟨k + 1, by omega, by go_num, rfl, Lib.hid (HZG.out _)⟩
    | succ m =>
      have hin : (j : Int) ≤ p.T := by have := HTT.out; omega
      have hj3 : (j : Int) ≤ 3 := by omega
      obtain ⟨md, hmd⟩ : ∃ y, y = (j : Int) * (1 + d) := ⟨_, rfl⟩
      have hmd' : (j : Int) * (1 + d) = md := hmd.symm
      have hdd : d = 0 ∨ d = 1 := by omega
      have hmb : 0 ≤ md ∧ md ≤ 6 := by rcases hdd with h | h <;> rw [hmd, h] <;> omega
      obtain ⟨hmb1, hmb2⟩ := hmb
      have HSN : Hid (((List.range (j + 1)).map fun i : Nat => 1 + (r + (i : Int) * (1 + d)) % n) = ((List.range j).map fun i : Nat => 1 + (r + (i : Int) * (1 + d)) % n) ++ [1 + (r + md) % n]) := Lib.hid (by rw [hmd]; exact m18_snoc _ _)
      have HLB : Hid ((((List.range j).map fun i : Nat => 1 + (r + (i : Int) * (1 + d)) % n).length + 1) * 8 ≤ 140737488355328) := Lib.hid (by simp; omega)
      have q1 := Int.emod_nonneg (r + md) (show n ≠ 0 by omega)
      have q2 := Int.emod_lt_of_pos (r + md) (show 0 < n by omega)
      have q3 : Int.tmod (r + md) n = (r + md) % n := Int.tmod_eq_emod_of_nonneg (by omega)
      obtain ⟨z, hz⟩ : ∃ y, y = (r + md) % n := ⟨_, rfl⟩
      rw [← hz] at HSN q1 q2 q3
      have hz' : (r + md) % n = z := hz.symm
      have HI : Hid (I64 (1 + z)) := Lib.hid ⟨by omega, by omega⟩
      have w1 : IntKind.i64.wrap md = md := IntWalk.i64_in _ (by omega)
      have w2 : IntKind.i64.wrap (r + md) = r + md := IntWalk.i64_in _ (by omega)
      clear hmd hdd hz
      go_wp2_with (at_builtin; refine wpList_pushG rfl (.tmp 25) (.tmp 39) rfl (E := encI) (y := 1 + z) el_int HG.out HA.out (fun _ h => h) ⟨rfl, HI.out⟩ HLB.out rfl rfl ?_)
      intro v2 w2' hacc2 hg2 hgo
      have HFIN : Hid (Acc encI w0.heap.size 3 (fun g => w0.heap.size ≤ g) w2' v2 ((List.range (j + 1)).map fun i : Nat => 1 + (r + (i : Int) * (1 + d)) % n) ∧ w0.grownBy w2' none) := Lib.hid ⟨by rw [HSN.out]; simpa using hacc2, hg2⟩
      clear hacc2 hg2 hgo
      go_wp2_with fail
      go_roundg m
      case measure => omega
      case rel => exact ⟨j + 1, by omega, by go_num, HFIN⟩
end Go.Proofs.YtnjkelojkoeihaaGreatDoor

namespace Go.Proofs.YtnjkelojkoeihaaGreatDoor
open Go Go.RowKit Go.Shelf

/-- The polynomials that are drawn, from the k-th draw on: of a secret, and its blinder. -/
def dealF (l : List Int) (q : Int) (dr : Nat → Int) (T k s : Nat) : List Int := behI (l[s]?.getD 0) q dr T (k + s * (2 * T + 1))
def dealR (q : Int) (dr : Nat → Int) (T k s : Nat) : List Int := behI (dr (k + s * (2 * T + 1) + T)) q dr T (k + s * (2 * T + 1) + T + 1)
def dealFs (l : List Int) (q : Int) (dr : Nat → Int) (T k n : Nat) : List (List Int) := (List.range n).map (dealF l q dr T k)
def dealRs (q : Int) (dr : Nat → Int) (T k n : Nat) : List (List Int) := (List.range n).map (dealR q dr T k)
theorem dsnoc {α : Type} (f : Nat → α) (n : Nat) : (List.range (n + 1)).map f = (List.range n).map f ++ [f n] := by simp [List.range_succ]
/-- A slice of one pair in a block made since n. -/
def BlkP (n : Nat) (a b : Int) (v : Value) (w : World) : Prop := ∃ g, v = .slice (some ⟨g, 0, none⟩) 1 1 ∧ n ≤ g ∧ Bk w g 58 #[.int .u64 a, .int .u64 b]
theorem Bk.two {w : World} {b : Nat} {t : TypeId} {u v : Value} (h : Bk w b t #[u, v]) : ∀ j x, [u, v][j]? = some x → w.cell? ⟨b, j, none⟩ = some x := fun j x hv => by rw [h.cell j]; simpa using hv
/-- Where the worlds stand while a pair is put to a share. -/
def evLt (wi : World) (base N : Nat) (v : Value) (xs : List (Int × Int)) (y : Int × Int) : Lt where
  C vs W := wi.grownBy W v.ownBlock ∧ N ≤ W.heap.size ∧ match vs with
    | [] => Acc encP base 58 (fun g => base ≤ g) W v xs
    | [u] => Acc encP base 58 (fun g => base ≤ g) W u (xs ++ [y])
    | _ => False
  R _ _ _ := True
  g := fun {vs X Y} ⟨h1, h2, h3⟩ hg => ⟨h1.trans (hg.but _), Nat.le_trans h2 hg.size, by
    match vs, h3 with
    | [], h3 => exact h3.kept hg
    | [_], h3 => exact h3.kept hg⟩
theorem evLt_vs {wi : World} {base N : Nat} {v : Value} {xs : List (Int × Int)} {y : Int × Int} {vs : List Value} {W : World} (hC : (evLt wi base N v xs y).C vs W) : vs = [] ∨ ∃ u, vs = [u] := by
  obtain ⟨_, _, h⟩ := hC
  match vs, h with
  | [], _ => exact .inl rfl
  | [u], _ => exact .inr ⟨u, rfl⟩
def evP {wi : World} {base N0 : Nat} {v0 : Value} {xs : List (Int × Int)} {y : Int × Int} (N : Nat) (a b : Int) : Qv (evLt wi base N0 v0 xs y) where
  p vs v W := vs = [] → BlkP N a b v W
  fr := 0
  st := fun h hg e => by
    obtain ⟨g, e1, hb, hk⟩ := h e
    exact ⟨g, e1, hb, hk.grown hg (by simp)⟩
  sr := fun _ _ _ _ e => absurd e (by simp)
/-- The pairs of member i + 1 up to secret s. -/
def evsI (p : Par) (F R : List (List Int)) (i s : Nat) : List (Int × Int) := (List.range s).map fun k => (evalI p.Q (F[k]?.getD []) ((i : Int) + 1), evalI p.Q (R[k]?.getD []) ((i : Int) + 1))
theorem evsI_succ (p : Par) (F R : List (List Int)) (i s : Nat) : evsI p F R i (s + 1) = evsI p F R i s ++ [(evalI p.Q (F[s]?.getD []) ((i : Int) + 1), evalI p.Q (R[s]?.getD []) ((i : Int) + 1))] := dsnoc _ _
theorem evsI_all (p : Par) (F R : List (List Int)) (i : Nat) : evsI p F R i F.length = dealtI p F R ((i : Int) + 1) := rfl
set_option maxRecDepth 100000 in
set_option maxHeartbeats 8000000 in
theorem dmodel_new (p : Par) (vl : Value) (l : List Int) (X : Nat → Prop) (w : World) {g : Nat} {dr : Nat → Int} {TI : Nat → World → Prop} {bl : Nat → Prop} {most : Nat} (hT : Tp g p.Q dr TI bl most) (hp : p.ok) (hm : mayP p = true) (hTab : TabsAt w) (h : Sl encU X w vl l) (hX : ∀ b, X b → b ≠ g) (hl : (l.length : Int) = secretsI p) (k0 T : Nat) (hTT : (T : Int) = p.T) (hI : TI k0 w) (hmost : k0 + l.length * (2 * T + 1) ≤ most) :
    Calls Tryz.prog 30 #[p.v, vl, .pointer (some ⟨g, 0, none⟩)] w fun e w' => ∃ vs vc, e = .returned (.tuple #[vs, vc, .int .i64 0]) ∧ Sl (encS encP) (fun b => w.heap.size ≤ b) w' vs ((List.range p.N.toNat).map fun i : Nat => dealtI p (dealFs l p.Q dr T k0 l.length) (dealRs p.Q dr T k0 l.length) ((i : Int) + 1)) ∧ Sl (encS encU) (fun b => w.heap.size ≤ b) w' vc (comsI p (dealFs l p.Q dr T k0 l.length) (dealRs p.Q dr T k0 l.length)) ∧ TI (k0 + l.length * (2 * T + 1)) w' ∧ w.grownBy w' (some g) := by
  have HT := Lib.hid hT
  have HP := Lib.hid hp
  have HX := Lib.hid hX
  obtain ⟨hq, _, _, n1, n2, n3, t1, t2, t3, hs, kk1, dd1⟩ := may_apart hm
  have hsec := smallB_secrets hs
  have HQ : Hid (U64 p.Q ∧ 0 < p.Q) := Lib.hid ⟨hp.Q, mayB_pos hq⟩
  have hL10 : l.length ≤ 10 := by omega
  have hT2 : T ≤ 2 := by omega
  obtain ⟨N, hN⟩ : ∃ k : Nat, (k : Int) = p.N := ⟨p.N.toNat, by omega⟩
  have hNt : p.N.toNat = N := by omega
  have hN7 : N ≤ 7 := by omega
  have HN := Lib.hid hN
  obtain ⟨A, c, rfl, hl1, hl2⟩ := h.form
  have hGW : g < w.heap.size := hT.old hI hT.own
  have HGW := Lib.hid hGW
  have HOB : Hid (∀ b, bl b → b < w.heap.size) := Lib.hid (fun b hb => hT.old hI hb)
  obtain ⟨w0, hw0⟩ : ∃ y, y = w.alloc (Obj.cells p.cells 24) := ⟨_, rfl⟩
  have HG0 : Hid (w.grownBy w0 none) := Lib.hid (by rw [hw0]; exact World.grownBy_alloc w _ none)
  have HB0 : Hid (Bk w0 w.heap.size 24 p.cells) := Lib.hid (by rw [hw0]; exact Bk.new w _ _)
  have HI0 : Hid (TI k0 w0) := Lib.hid (hT.keep hI HG0.out (by simp))
  have HMY := Lib.hid (fun (w' : World) (hg : w0.grownBy w' none) => may_any p w' hp (hTab.kept (HG0.out.trans hg)))
  rw [hm] at HMY
  have HMAY := Lib.hid hm
  have HSEC := Lib.hid (dsecrets_any p)
  rw [← hl] at HSEC
  have HL := Lib.hid (h.kept HG0.out)
  have HTP := Lib.hid hTT
  have HMO := Lib.hid hmost
  have HLS := Lib.hid hl
  rw [hNt]
  clear hT hp hX hq n1 n2 n3 t1 t2 t3 hs kk1 dd1 hsec hm hTab h hI hTT hmost hl hGW hN hNt
  go_enter Tryz.func30, Tryz.ntmps30
  go_wp2_with fail
  rw [← hw0]
  have hp0 := HB0.out.prule
  clear hw0
  go_wp2_with fail
  refine (HMY.out _ (World.grownBy.refl _ none)).mono ?_
  rintro e w1 ⟨rfl, hg⟩
  have HG1 : Hid (w0.grownBy w1 none) := Lib.hid hg
  have hp1 := (HB0.out.grown hg (by simp)).prule
  clear hg hp0 HMY
  go_wp2_with fail
  refine (HSEC.out _).mono ?_
  rintro e w2 ⟨rfl, hg⟩
  have HG2 : Hid (w0.grownBy w2 none) := Lib.hid (HG1.out.trans hg)
  clear hg hp1 HSEC
  go_upto_region 6 with (fail)
  have HB2 : Hid (Bk w2 w.heap.size 24 p.cells) := Lib.hid (HB0.out.grown HG2.out (by simp))
  have HI2 : Hid (TI k0 w2) := Lib.hid (HT.out.keep HI0.out HG2.out (by simp))
  have HW2 : Hid (w.heap.size < w2.heap.size ∧ g < w.heap.size) := Lib.hid ⟨HB2.out.lt, HGW.out⟩
  have HPX : Hid (∀ wx, w2.grownBy wx (some g) → Bk wx w.heap.size 24 p.cells) := Lib.hid (fun wx hg => HB2.out.grown hg (fun e => by injection e with e; have := HW2.out.2; omega))
  have HLX : Hid (∀ wx, w2.grownBy wx (some g) → Sl encU X wx (.slice A l.length c) l) := Lib.hid (fun wx hg => (HL.out.kept HG2.out).keep hg (fun b hb e => HX.out b hb (by injection e with e)))
  have HBH : Hid (∀ (x : Int) (k : Nat) (wx : World), U64 x → k + T ≤ most → TI k wx → Calls Tryz.prog 81 #[.int .u64 x, .int .i64 p.T, .int .u64 p.Q, .func (.func 80) #[.pointer (some ⟨g, 0, none⟩)] #[]] wx fun e w' => ∃ v, e = .returned v ∧ Sl encU (fun b => wx.heap.size ≤ b) w' v (behI x p.Q dr T k) ∧ TI (k + T) w' ∧ wx.grownBy w' (some g)) := Lib.hid (fun x k wx hx hk hi => by
    rw [← HTP.out]
    exact behind_any HT.out x T k wx hx HQ.out.1 HQ.out.2 (by omega) hk hi)
  have HNX : Hid (∀ (k : Nat) (wx : World), k < most → TI k wx → Calls Tryz.prog 80 #[.pointer (some ⟨g, 0, none⟩), .int .u64 p.Q] wx fun e w' => e = .returned (.int .u64 (dr k)) ∧ TI (k + 1) w' ∧ wx.grownBy w' (some g)) := Lib.hid (fun k wx hk hi => HT.out.next hk hi)
  obtain ⟨L, hLL⟩ : ∃ y, y = l.length := ⟨_, rfl⟩
  have HLN := Lib.hid hLL
  rw [← hLL] at hL10 hl1 HMO HLX ⊢
  clear hLL
  go_loopg [10, 11, 31] L (fun gk s10 s11 s31 wx => ∃ s : Nat, s + gk = L ∧ s31 = .int .i64 s ∧ Hid (Side (encS encU) (encS encU) w2.heap.size 25 25 (fun b => w2.heap.size ≤ b) wx s10 s11 (dealFs l p.Q dr T k0 s) (dealRs p.Q dr T k0 s) ∧ TI (k0 + s * (2 * T + 1)) wx ∧ w2.grownBy wx (some g)))
  case atStart => exact ⟨0, by omega, rfl, Lib.hid ⟨⟨Acc.nil _ _ _ _ _, Acc.nil _ _ _ _ _⟩, by simpa using HI2.out, World.grownBy.refl _ _⟩⟩
  case round =>
    obtain ⟨s, hsL, rfl, HXX⟩ := hrel
    have HS0 := Lib.hid HXX.out.1
    have HI3 := Lib.hid HXX.out.2.1
    have HG3 := Lib.hid HXX.out.2.2
    clear HXX
    have hp3 := (HPX.out _ HG3.out).prule
    cases gk with
    | zero =>
      have eL : L = s := by omega
      subst eL
      have hno : ¬ ((L : Int) < (L : Int)) := by omega
      obtain ⟨F, hF⟩ : ∃ y, y = dealFs l p.Q dr T k0 L := ⟨_, rfl⟩
      obtain ⟨R, hR⟩ : ∃ y, y = dealRs p.Q dr T k0 L := ⟨_, rfl⟩
      rw [← hF, ← hR] at HS0
      have HFL : Hid (F.length = L ∧ R.length = L) := Lib.hid (by rw [hF, hR]; simp [dealFs, dealRs])
      have HFT : Hid ((∀ c ∈ F, c.length = T + 1) ∧ (∀ c ∈ R, c.length = T + 1)) := Lib.hid (by
        rw [hF, hR]
        refine ⟨fun c hc => ?_, fun c hc => ?_⟩
        · obtain ⟨i, _, rfl⟩ := List.mem_map.1 hc
          exact behI_len _ _ _ _ _
        · obtain ⟨i, _, rfl⟩ := List.mem_map.1 hc
          exact behI_len _ _ _ _ _)
      have HFE := Lib.hid hF
      have HRE := Lib.hid hR
      obtain ⟨AF, cF, eF, _, _⟩ := HS0.out.fst.sl.form
      obtain ⟨AR, cR, eR, _, _⟩ := HS0.out.snd.sl.form
      rw [HFL.out.1] at eF
      rw [HFL.out.2] at eR
      subst eF eR
      have hmk := run_make_row' (P := Tryz.prog) 39 33 (.slice none 0 0) 24 Tryz.underlying39 info_pairs rfl .i64 .i64 N (by omega) (by omega)
      rw [HN.out] at hmk
      obtain ⟨D0, hD0⟩ : ∃ y, y = wr.alloc (.cells (madeCells #[.slice none 0 0] N) 33) := ⟨_, rfl⟩
      obtain ⟨Bs, hBs⟩ : ∃ y, y = wr.heap.size := ⟨_, rfl⟩
      have HGA : Hid (wr.grownBy D0 none) := Lib.hid (by rw [hD0]; exact World.grownBy_alloc _ _ none)
      have HBO : Hid (Bk D0 Bs 33 (List.replicate N (.slice none 0 0)).toArray) := Lib.hid (by
        rw [hD0, hBs]
        exact (Bk.new wr 33 (madeCells #[.slice none 0 0] N)).of_eq (Array.toList_inj.1 (by rw [toList_madeCells_one])))
      have HBB : Hid (w2.heap.size ≤ Bs ∧ w.heap.size < Bs ∧ g < w.heap.size) := Lib.hid (by rw [hBs]; have := HG3.out.size; have := HW2.out; omega)
      have HBD : Hid (Bk D0 w.heap.size 24 p.cells) := Lib.hid ((HPX.out _ HG3.out).grown HGA.out (by simp))
      have HFD : Hid (Sl (encS encU) (fun b => b < Bs) D0 (.slice AF L cF) F) := Lib.hid ((HS0.out.fst.sl.bounded.kept HGA.out).more fun b _ hb => by rw [hBs]; exact hb.2)
      have HRD : Hid (Sl (encS encU) (fun b => b < Bs) D0 (.slice AR L cR) R) := Lib.hid ((HS0.out.snd.sl.bounded.kept HGA.out).more fun b _ hb => by rw [hBs]; exact hb.2)
      have HID : Hid (TI (k0 + L * (2 * T + 1)) D0) := Lib.hid (HT.out.keep HI3.out HGA.out (by simp))
      have HGD : Hid (w.grownBy D0 (some g)) := Lib.hid (((HG0.out.trans HG2.out).but _).trans (HG3.out.trans (HGA.out.but _)))
      have HLL : Hid ((List.replicate N (Value.slice none 0 0)).length = N) := Lib.hid (by simp)
      have HST : Hid (Bk D0 Bs 33 (List.replicate N (Value.slice none 0 0)).toArray ∧ (∀ i (hi : i < (List.replicate N (Value.slice none 0 0)).length), i < 0 → Sl encP (fun b => Bs < b) D0 (List.replicate N (Value.slice none 0 0))[i] (dealtI p F R ((i : Int) + 1))) ∧ (∀ i (hi : i < (List.replicate N (Value.slice none 0 0)).length), 0 ≤ i → (List.replicate N (Value.slice none 0 0))[i] = .slice none 0 0) ∧ D0.grownBy D0 (some Bs)) := Lib.hid ⟨HBO.out, fun i hi h => absurd h (Nat.not_lt_zero _), fun i hi _ => by simp, World.grownBy.refl _ _⟩
      have HPD : Hid (∀ wx, D0.grownBy wx (some Bs) → Bk wx w.heap.size 24 p.cells) := Lib.hid (fun wx hg => HBD.out.grown hg (fun e => by injection e with e; have := HBB.out; omega))
      have HFX : Hid (∀ wx, D0.grownBy wx (some Bs) → Sl (encS encU) (fun b => b < Bs) wx (.slice AF L cF) F) := Lib.hid (fun wx hg => HFD.out.keep hg (fun b hb e => by injection e with e; omega))
      have HRX : Hid (∀ wx, D0.grownBy wx (some Bs) → Sl (encS encU) (fun b => b < Bs) wx (.slice AR L cR) R) := Lib.hid (fun wx hg => HRD.out.keep hg (fun b hb e => by injection e with e; omega))
      clear hF hR HS0 HI3 HBH HNX HB0 HB2 HBO HBD HFD HRD HPX HLX HG3 HGA
      go_upto_region 13 with (fail)
      rw [← hD0, ← hBs]
      clear hD0 hBs hmk hp3
      go_loopg [64] N (fun gk s64 wx => ∃ (j : Nat) (hs : List Value), j + gk = N ∧ s64 = .int .i64 j ∧ Hid (hs.length = N) ∧ Hid (Bk wx Bs 33 hs.toArray ∧ (∀ i (hi : i < hs.length), i < j → Sl encP (fun b => Bs < b) wx hs[i] (dealtI p F R ((i : Int) + 1))) ∧ (∀ i (hi : i < hs.length), j ≤ i → hs[i] = .slice none 0 0) ∧ D0.grownBy wx (some Bs)))
      case atStart => exact ⟨0, _, by omega, rfl, HLL, HST⟩
      case round =>
        rename World => wj
        obtain ⟨i, hs, hiN, rfl, HLH, HX2⟩ := hrel
        cases gk with
        | zero =>
          obtain rfl : i = N := by omega
          have hno2 : ¬ ((i : Int) < (i : Int)) := by omega
          have HRV : Hid (Sl (encS encP) (fun b => Bs ≤ b) wj (.slice (some ⟨Bs, 0, none⟩) i i) ((List.range i).map fun k : Nat => dealtI p F R ((k : Int) + 1))) := Lib.hid (by
            obtain ⟨h1, h2, _, _⟩ := HX2.out
            have hTL : ((List.range i).map fun k : Nat => dealtI p F R ((k : Int) + 1)).length = i := by simp
            have := Sl.block (E := encS encP) (X := fun b => Bs ≤ b) (xs := (List.range i).map fun k : Nat => dealtI p F R ((k : Int) + 1)) (c := i) h1 (Nat.le_refl _) (hs.map fun v => [v]) (by rw [List.length_map, HLH.out, hTL]) (fun k hk hk' => ⟨hs[k]'(by rw [HLH.out]; omega), by simp, by
              have hc := (h2 k (by rw [HLH.out]; omega) (by omega)).more (Y := fun b => Bs ≤ b) (fun b _ hb => by omega)
              have he : ((List.range i).map fun k : Nat => dealtI p F R ((k : Int) + 1))[k] = dealtI p F R ((k : Int) + 1) := by simp
              rw [he]
              exact hc⟩) (by rw [flatten_singles]) (by rw [hTL]; exact Nat.le_refl _) (by omega)
            rw [hTL] at this
            exact this)
          have HGJ := Lib.hid HX2.out.2.2.2
          have hpj := (HPD.out _ HGJ.out).prule
          have HCM := Lib.hid (callsIn_wide.1 (coms_in 6 (Nat.le_refl _) p (.slice AF L cF) (.slice AR L cR) F R TT wj HP.out ((HFX.out _ HGJ.out).more fun _ _ _ => trivial) ((HRX.out _ HGJ.out).more fun _ _ _ => trivial) (by rw [HFL.out.1]; omega) (by rw [HFL.out.2]; omega) (fun c hc => by
            show c.length ≤ 100000
            rw [HFT.out.1 c hc]
            omega) (fun c hc => by
            show c.length ≤ 100000
            rw [HFT.out.2 c hc]
            omega)))
          clear HX2 HST HLH
          go_wp2_with fail
          refine HCM.out.mono ?_
          rintro e w9 ⟨vc, rfl, hsc, hgc⟩
          have HFIN : Hid (Sl (encS encP) (fun b => w.heap.size ≤ b) w9 (.slice (some ⟨Bs, 0, none⟩) i i) ((List.range i).map fun k : Nat => dealtI p (dealFs l p.Q dr T k0 L) (dealRs p.Q dr T k0 L) ((k : Int) + 1)) ∧ Sl (encS encU) (fun b => w.heap.size ≤ b) w9 vc (comsI p (dealFs l p.Q dr T k0 L) (dealRs p.Q dr T k0 L)) ∧ TI (k0 + L * (2 * T + 1)) w9 ∧ w.grownBy w9 (some g)) := Lib.hid ⟨by
            rw [← HFE.out, ← HRE.out]
            exact (HRV.out.kept hgc).more fun b _ hb => by have := HBB.out.2.1; omega, by
            rw [← HFE.out, ← HRE.out]
            exact hsc.more fun b _ hb => Nat.le_trans (Nat.le_trans HGD.out.size HGJ.out.size) hb, HT.out.keep (HT.out.keep HID.out HGJ.out (fun b e hb => by injection e with e; have := HOB.out b hb; have := HBB.out; omega)) hgc (by simp), HGD.out.andThen (HGJ.out.trans (hgc.but _)) (fun b e => .inl (by injection e with e; have := HBB.out; omega))⟩
          clear hsc hgc hpj
          go_wp2
          go_ret3
          refine ⟨_, _, rfl, ?_⟩
          rw [← HLN.out]
          exact HFIN.out
        | succ m =>
          have hiI : (i : Int) < (N : Int) := by omega
          have hih : i < hs.length := by rw [HLH.out]; omega
          have HIH := Lib.hid hih
          have hjB : Bs < wj.heap.size := HX2.out.1.lt
          have HJB := Lib.hid hjB
          have HIN : Hid (Acc encP wj.heap.size 58 (fun b => wj.heap.size ≤ b) wj (.slice none 0 0) (evsI p F R i 0) ∧ Bk wj Bs 33 (hs.set i (.slice none 0 0)).toArray ∧ wj.grownBy wj (some Bs)) := Lib.hid ⟨Acc.nil _ _ _ _ _, by
            have := HX2.out.2.2.1 i hih (Nat.le_refl _)
            rw [← this, List.set_getElem_self]
            exact HX2.out.1, World.grownBy.refl _ _⟩
          have HGJ := Lib.hid HX2.out.2.2.2
          clear hjB hih
          go_wp2_with fail
          go_loopg [69] L (fun gk s69 wx => ∃ (s : Nat) (v : Value), s + gk = L ∧ s69 = .int .i64 s ∧ Hid (Acc encP wj.heap.size 58 (fun b => wj.heap.size ≤ b) wx v (evsI p F R i s) ∧ Bk wx Bs 33 (hs.set i v).toArray ∧ wj.grownBy wx (some Bs)))
          case atStart => exact ⟨0, _, by omega, rfl, HIN⟩
          case round =>
            rename World => wi
            obtain ⟨s, v, hsL2, rfl, HY⟩ := hrel
            cases gk with
            | zero =>
              obtain rfl : s = L := by omega
              have HFIN : Hid (Bk wi Bs 33 (hs.set i v).toArray ∧ (∀ k (hk : k < (hs.set i v).length), k < i + 1 → Sl encP (fun b => Bs < b) wi (hs.set i v)[k] (dealtI p F R ((k : Int) + 1))) ∧ (∀ k (hk : k < (hs.set i v).length), i + 1 ≤ k → (hs.set i v)[k] = .slice none 0 0) ∧ D0.grownBy wi (some Bs)) := Lib.hid (by
                obtain ⟨h1, h2, h3⟩ := HY.out
                obtain ⟨_, k2, k3, k4⟩ := HX2.out
                refine ⟨h2, fun k hk hij => ?_, fun k hk hij => ?_, HGJ.out.trans h3⟩
                · rcases Nat.lt_or_ge k i with hlt | hge
                  · rw [List.getElem_set_ne (by omega)]
                    exact (k2 k (by simpa using hk) hlt).keep h3 (fun b hb e => by injection e with e; omega)
                  · obtain rfl : k = i := by omega
                    rw [List.getElem_set_self, ← evsI_all p F R k, HFL.out.1]
                    exact h1.sl.more (fun b _ hb => Nat.lt_of_lt_of_le HJB.out hb)
                · rw [List.getElem_set_ne (by omega)]
                  exact k3 k (by simpa using hk) (by omega))
              have HLH2 : Hid ((hs.set i v).length = N) := Lib.hid (by rw [List.length_set]; exact HLH.out)
              clear HX2 HY HST HIN
              go_wp2_with fail
              go_roundg m
              case measure => omega
              case rel => exact ⟨i + 1, _, by omega, by go_num, HLH2, HFIN⟩
            | succ q =>
              have hsI : (s : Int) < (L : Int) := by omega
              have hsF : s < F.length := by rw [HFL.out.1]; omega
              have hsR : s < R.length := by rw [HFL.out.2]; omega
              obtain ⟨hacc, hbo, hgj⟩ := HY.out
              have hgd : D0.grownBy wi (some Bs) := HGJ.out.trans hgj
              obtain ⟨gF, oF, cF', uF, eF, _, hgFl, hcF, hslF⟩ := (HFX.out _ hgd).atS hsF
              injection eF with eF1 eF2 eF3
              subst eF1 eF3
              obtain ⟨gR, oR, cR', uR, eR, _, hgRl, hcR, hslR⟩ := (HRX.out _ hgd).atS hsR
              injection eR with eR1 eR2 eR3
              subst eR1 eR3
              obtain ⟨Af, nf, cf, ef⟩ := hslF.shape
              subst ef
              obtain ⟨Ar, nr, cr, er⟩ := hslR.shape
              subst er
              obtain ⟨Av, nv, cv, ev⟩ := hacc.sl.shape
              subst ev
              have HSN := Lib.hid (evsI_succ p F R i s)
              rw [List.getElem?_eq_getElem hsF, List.getElem?_eq_getElem hsR] at HSN
              have hui : U64 ((i : Int) + 1) := ⟨by omega, by omega⟩
              obtain ⟨ea, hea⟩ : ∃ y, y = evalI p.Q F[s] ((i : Int) + 1) := ⟨_, rfl⟩
              obtain ⟨eb, heb⟩ : ∃ y, y = evalI p.Q R[s] ((i : Int) + 1) := ⟨_, rfl⟩
              simp only [Option.getD_some] at HSN
              rw [← hea, ← heb] at HSN
              have HUA : Hid (U64 ea) := Lib.hid (by rw [hea]; exact evalI_U64 _ _ _)
              have HUB : Hid (U64 eb) := Lib.hid (by rw [heb]; exact evalI_U64 _ _ _)
              obtain ⟨NN, hNN⟩ : ∃ y, y = wi.heap.size := ⟨_, rfl⟩
              have HNB : Hid (wj.heap.size ≤ NN) := Lib.hid (by rw [hNN]; exact hgj.size)
              have hown : ∀ b, (Value.slice Av nv cv).ownBlock = some b → wj.heap.size ≤ b := fun b e => (hacc.lt b e).1
              have hcv0 : wi.cell? ⟨Bs, i, none⟩ = some (.slice Av nv cv) := by rw [hbo.cell i]; simp [HIH.out]
              have hbp := HPD.out _ hgd
              have HNE : Hid (∀ b, b ≤ Bs → some b ≠ (Value.slice Av nv cv).ownBlock) := Lib.hid (fun b hb e => by have := hown b e.symm; have := HJB.out; omega)
              have HC0 : Hid ((evLt wi wj.heap.size NN (.slice Av nv cv) (evsI p F R i s) (ea, eb)).C [] wi.drew) := Lib.hid ⟨(grown_drewN' _ 1).but _, by rw [hNN]; exact Nat.le_refl _, hacc.kept (grown_drewN' _ 1)⟩
              have HLD : Hid (∀ vs W, (evLt wi wj.heap.size NN (.slice Av nv cv) (evsI p F R i s) (ea, eb)).C vs W → W.cell? ⟨w.heap.size, 1, none⟩ = some (.int .u64 p.Q) ∧ W.cell? ⟨gF, oF + s, none⟩ = some (.slice Af nf cf) ∧ W.cell? ⟨gR, oR + s, none⟩ = some (.slice Ar nr cr) ∧ W.cell? ⟨Bs, i, none⟩ = some (.slice Av nv cv)) := Lib.hid (fun vs W hC => ⟨(hbp.grown hC.1 (HNE.out _ (by have := HBB.out; omega))).cell 1, cellK hcF hC.1 (HNE.out _ (by omega)), cellK hcR hC.1 (HNE.out _ (by omega)), cellK hcv0 hC.1 (HNE.out _ (Nat.le_refl _))⟩)
              have HE1 : Hid (∀ vs W, (evLt wi wj.heap.size NN (.slice Av nv cv) (evsI p F R i s) (ea, eb)).C vs W → Calls Tryz.prog 59 #[.slice Af nf cf, .int .u64 ((i : Int) + 1), .int .u64 p.Q] W fun e w' => e = .returned (.int .u64 ea) ∧ W.grownBy w' none) := Lib.hid (fun vs W hC => by
                rw [hea]
                exact eval_any _ F[s] _ p.Q _ W (hslF.keep hC.1 (fun b hb => HNE.out b (by omega))) hui)
              have HE2 : Hid (∀ vs W, (evLt wi wj.heap.size NN (.slice Av nv cv) (evsI p F R i s) (ea, eb)).C vs W → Calls Tryz.prog 59 #[.slice Ar nr cr, .int .u64 ((i : Int) + 1), .int .u64 p.Q] W fun e w' => e = .returned (.int .u64 eb) ∧ W.grownBy w' none) := Lib.hid (fun vs W hC => by
                rw [heb]
                exact eval_any _ R[s] _ p.Q _ W (hslR.keep hC.1 (fun b hb => HNE.out b (by omega))) hui)
              have HSZ : Hid (∀ vs W, (evLt wi wj.heap.size NN (.slice Av nv cv) (evsI p F R i s) (ea, eb)).C vs W → NN ≤ W.heap.size) := Lib.hid (fun vs W hC => hC.2.1)
              have HLB : Hid (((evsI p F R i s).length + 1) * 16 ≤ 140737488355328) := Lib.hid (by simp [evsI]; omega)
              have HFR : Hid (∀ (W : World) (u0 : Value), (evLt wi wj.heap.size NN (.slice Av nv cv) (evsI p F R i s) (ea, eb)).C [u0] W → Acc encP wj.heap.size 58 (fun b => wj.heap.size ≤ b) (W.setCell ⟨Bs, i, none⟩ u0) u0 (evsI p F R i (s + 1)) ∧ Bk (W.setCell ⟨Bs, i, none⟩ u0) Bs 33 (hs.set i u0).toArray ∧ wj.grownBy (W.setCell ⟨Bs, i, none⟩ u0) (some Bs)) := Lib.hid (fun W u0 hC => by
                obtain ⟨g1, _, g3⟩ := hC
                have h3 : Acc encP wj.heap.size 58 (fun b => wj.heap.size ≤ b) W u0 (evsI p F R i (s + 1)) := by rw [HSN.out]; exact g3
                exact ⟨h3.keep (grownSet W Bs i u0) (fun b hb e => by injection e with e; have := HJB.out; omega), ((hbo.grown g1 (HNE.out _ (Nat.le_refl _))).set i u0).of_eq (by simp), ((hgj.andThen g1 (fun b e => .inl (hown b e))).andThen (grownSet W Bs i u0) (fun b e => .inr e))⟩)
              have HFRZ : Hid (∀ (W : World) (vs : List Value), (evLt wi wj.heap.size NN (.slice Av nv cv) (evsI p F R i s) (ea, eb)).C vs W → Bk W Bs 33 (hs.set i (.slice Av nv cv)).toArray) := Lib.hid (fun W vs hC => hbo.grown hC.1 (HNE.out _ (Nat.le_refl _)))
              have hcw : IntKind.u64.wrap ((i : Int) + 1) = (i : Int) + 1 := IntWalk.u64_in _ (by omega)
              have hci : IntKind.i64.wrap ((i : Int) + 1) = (i : Int) + 1 := IntWalk.i64_in _ (by omega)
              have hs0 : (0 : Int) ≤ (s : Int) := Int.natCast_nonneg s
              have hi0 : (0 : Int) ≤ (i : Int) := Int.natCast_nonneg i
              clear hacc hbo hgj hgd hslF hslR hcF hcR hea heb hNN hown hcv0 hbp hgFl hgRl eF2 eR2 HY HIN HST hui hsF hsR
              go_upto_region 18 with (fail)
              refine wp_region_late (evLt wi wj.heap.size NN (.slice Av nv cv) (evsI p F R i s) (ea, eb)) [28] 30 (by kernel_rfl) (by kernel_rfl) (by kernel_rfl) HC0.out ?_
              -- op 0 (slot 72): move
              refine LateR.mono (Qv.eq (.slice (some ⟨Bs, 0, none⟩) N N)) [] (by kernel_rfl) (by rfl) rfl (fun vs w' hC => ?_) ?_
              · refine askl_do rfl fun K hK => ?_
                go_simp
                exact hK _ _ rfl ⟨rfl, World.grownBy.refl _ none⟩
              -- op 1 (slot 73): move
              refine LateR.mono (Qv.eq (.int .i64 (i : Int))) [] (by kernel_rfl) (by rfl) rfl (fun vs w' hC => ?_) ?_
              · refine askl_do rfl fun K hK => ?_
                go_simp
                exact hK _ _ rfl ⟨rfl, World.grownBy.refl _ none⟩
              -- op 2 (slot 74): move
              refine LateR.mono (Qv.eq (.slice (some ⟨Bs, 0, none⟩) N N)) [] (by kernel_rfl) (by rfl) rfl (fun vs w' hC => ?_) ?_
              · refine askl_do rfl fun K hK => ?_
                go_simp
                exact hK _ _ rfl ⟨rfl, World.grownBy.refl _ none⟩
              -- op 3 (slot 75): move
              refine LateR.mono (Qv.eq (.int .i64 (i : Int))) [] (by kernel_rfl) (by rfl) rfl (fun vs w' hC => ?_) ?_
              · refine askl_do rfl fun K hK => ?_
                go_simp
                exact hK _ _ rfl ⟨rfl, World.grownBy.refl _ none⟩
              -- op 4 (slot 76): indexAddr
              refine LateR.mono (Qv.eq (.pointer (some ⟨Bs, i, none⟩))) [(2, 74), (3, 75)] (by kernel_rfl) (by rfl) rfl (fun vs w' hC => ?_) ?_
              · rintro _ rfl
                rintro _ rfl
                refine askl_do rfl fun K hK => ?_
                go_simp
                exact hK _ _ rfl ⟨rfl, World.grownBy.refl _ none⟩
              -- op 5 (slot 77): load
              refine LateR.mono (Qv.eq (.slice Av nv cv)) [(4, 76)] (by kernel_rfl) (by rfl) rfl (fun vs w' hC => ?_) ?_
              · rintro _ rfl
                refine askl_do rfl fun K hK => ?_
                obtain ⟨q0, q1, q2, q3⟩ := HLD.out vs w' hC
                go_simp
                exact hK _ _ rfl ⟨rfl, World.grownBy.refl _ none⟩
              -- op 6 (slot 78): move
              refine LateR.mono (Qv.eq (.slice (some ⟨gF, oF, none⟩) L cF)) [] (by kernel_rfl) (by rfl) rfl (fun vs w' hC => ?_) ?_
              · refine askl_do rfl fun K hK => ?_
                go_simp
                exact hK _ _ rfl ⟨rfl, World.grownBy.refl _ none⟩
              -- op 7 (slot 79): move
              refine LateR.mono (Qv.eq (.int .i64 (s : Int))) [] (by kernel_rfl) (by rfl) rfl (fun vs w' hC => ?_) ?_
              · refine askl_do rfl fun K hK => ?_
                go_simp
                exact hK _ _ rfl ⟨rfl, World.grownBy.refl _ none⟩
              -- op 8 (slot 80): indexAddr
              refine LateR.mono (Qv.eq (.pointer (some ⟨gF, oF + s, none⟩))) [(6, 78), (7, 79)] (by kernel_rfl) (by rfl) rfl (fun vs w' hC => ?_) ?_
              · rintro _ rfl
                rintro _ rfl
                refine askl_do rfl fun K hK => ?_
                go_simp
                exact hK _ _ rfl ⟨rfl, World.grownBy.refl _ none⟩
              -- op 9 (slot 81): load
              refine LateR.mono (Qv.eq (.slice Af nf cf)) [(8, 80)] (by kernel_rfl) (by rfl) rfl (fun vs w' hC => ?_) ?_
              · rintro _ rfl
                refine askl_do rfl fun K hK => ?_
                obtain ⟨q0, q1, q2, q3⟩ := HLD.out vs w' hC
                go_simp
                exact hK _ _ rfl ⟨rfl, World.grownBy.refl _ none⟩
              -- op 10 (slot 82): move
              refine LateR.mono (Qv.eq (.int .i64 (i : Int))) [] (by kernel_rfl) (by rfl) rfl (fun vs w' hC => ?_) ?_
              · refine askl_do rfl fun K hK => ?_
                go_simp
                exact hK _ _ rfl ⟨rfl, World.grownBy.refl _ none⟩
              -- op 11 (slot 83): binOp
              refine LateR.mono (Qv.eq (.int .i64 ((i : Int) + 1))) [(10, 82)] (by kernel_rfl) (by rfl) rfl (fun vs w' hC => ?_) ?_
              · rintro _ rfl
                refine askl_do rfl fun K hK => ?_
                go_simp
                exact hK _ _ rfl ⟨rfl, World.grownBy.refl _ none⟩
              -- op 12 (slot 84): convert
              refine LateR.mono (Qv.eq (.int .u64 ((i : Int) + 1))) [(11, 83)] (by kernel_rfl) (by rfl) rfl (fun vs w' hC => ?_) ?_
              · rintro _ rfl
                refine askl_do rfl fun K hK => ?_
                go_simp
                exact hK _ _ rfl ⟨rfl, World.grownBy.refl _ none⟩
              -- op 13 (slot 85): fieldAddr
              refine LateR.mono (Qv.eq (.pointer (some ⟨w.heap.size, 1, none⟩))) [] (by kernel_rfl) (by rfl) rfl (fun vs w' hC => ?_) ?_
              · refine askl_do rfl fun K hK => ?_
                go_simp
                exact hK _ _ rfl ⟨rfl, World.grownBy.refl _ none⟩
              -- op 14 (slot 86): load
              refine LateR.mono (Qv.eq (.int .u64 p.Q)) [(13, 85)] (by kernel_rfl) (by rfl) rfl (fun vs w' hC => ?_) ?_
              · rintro _ rfl
                refine askl_do rfl fun K hK => ?_
                obtain ⟨q0, q1, q2, q3⟩ := HLD.out vs w' hC
                go_simp
                exact hK _ _ rfl ⟨rfl, World.grownBy.refl _ none⟩
              -- op 15 (slot 87): call
              refine LateR.mono (Qv.eq (.int .u64 ea)) [(9, 81), (12, 84), (14, 86)] (by kernel_rfl) (by rfl) rfl (fun vs w' hC => ?_) ?_
              · rintro _ rfl
                rintro _ rfl
                rintro _ rfl
                refine askl_do rfl fun K hK => ?_
                go_simp
                refine (HE1.out vs w' hC).mono ?_
                rintro e w3 ⟨rfl, hg3⟩
                exact hK _ _ rfl ⟨rfl, hg3⟩
              -- op 16 (slot 88): move
              refine LateR.mono (Qv.eq (.slice (some ⟨gR, oR, none⟩) L cR)) [] (by kernel_rfl) (by rfl) rfl (fun vs w' hC => ?_) ?_
              · refine askl_do rfl fun K hK => ?_
                go_simp
                exact hK _ _ rfl ⟨rfl, World.grownBy.refl _ none⟩
              -- op 17 (slot 89): move
              refine LateR.mono (Qv.eq (.int .i64 (s : Int))) [] (by kernel_rfl) (by rfl) rfl (fun vs w' hC => ?_) ?_
              · refine askl_do rfl fun K hK => ?_
                go_simp
                exact hK _ _ rfl ⟨rfl, World.grownBy.refl _ none⟩
              -- op 18 (slot 90): indexAddr
              refine LateR.mono (Qv.eq (.pointer (some ⟨gR, oR + s, none⟩))) [(16, 88), (17, 89)] (by kernel_rfl) (by rfl) rfl (fun vs w' hC => ?_) ?_
              · rintro _ rfl
                rintro _ rfl
                refine askl_do rfl fun K hK => ?_
                go_simp
                exact hK _ _ rfl ⟨rfl, World.grownBy.refl _ none⟩
              -- op 19 (slot 91): load
              refine LateR.mono (Qv.eq (.slice Ar nr cr)) [(18, 90)] (by kernel_rfl) (by rfl) rfl (fun vs w' hC => ?_) ?_
              · rintro _ rfl
                refine askl_do rfl fun K hK => ?_
                obtain ⟨q0, q1, q2, q3⟩ := HLD.out vs w' hC
                go_simp
                exact hK _ _ rfl ⟨rfl, World.grownBy.refl _ none⟩
              -- op 20 (slot 92): move
              refine LateR.mono (Qv.eq (.int .i64 (i : Int))) [] (by kernel_rfl) (by rfl) rfl (fun vs w' hC => ?_) ?_
              · refine askl_do rfl fun K hK => ?_
                go_simp
                exact hK _ _ rfl ⟨rfl, World.grownBy.refl _ none⟩
              -- op 21 (slot 93): binOp
              refine LateR.mono (Qv.eq (.int .i64 ((i : Int) + 1))) [(20, 92)] (by kernel_rfl) (by rfl) rfl (fun vs w' hC => ?_) ?_
              · rintro _ rfl
                refine askl_do rfl fun K hK => ?_
                go_simp
                exact hK _ _ rfl ⟨rfl, World.grownBy.refl _ none⟩
              -- op 22 (slot 94): convert
              refine LateR.mono (Qv.eq (.int .u64 ((i : Int) + 1))) [(21, 93)] (by kernel_rfl) (by rfl) rfl (fun vs w' hC => ?_) ?_
              · rintro _ rfl
                refine askl_do rfl fun K hK => ?_
                go_simp
                exact hK _ _ rfl ⟨rfl, World.grownBy.refl _ none⟩
              -- op 23 (slot 95): fieldAddr
              refine LateR.mono (Qv.eq (.pointer (some ⟨w.heap.size, 1, none⟩))) [] (by kernel_rfl) (by rfl) rfl (fun vs w' hC => ?_) ?_
              · refine askl_do rfl fun K hK => ?_
                go_simp
                exact hK _ _ rfl ⟨rfl, World.grownBy.refl _ none⟩
              -- op 24 (slot 96): load
              refine LateR.mono (Qv.eq (.int .u64 p.Q)) [(23, 95)] (by kernel_rfl) (by rfl) rfl (fun vs w' hC => ?_) ?_
              · rintro _ rfl
                refine askl_do rfl fun K hK => ?_
                obtain ⟨q0, q1, q2, q3⟩ := HLD.out vs w' hC
                go_simp
                exact hK _ _ rfl ⟨rfl, World.grownBy.refl _ none⟩
              -- op 25 (slot 97): call
              refine LateR.mono (Qv.eq (.int .u64 eb)) [(19, 91), (22, 94), (24, 96)] (by kernel_rfl) (by rfl) rfl (fun vs w' hC => ?_) ?_
              · rintro _ rfl
                rintro _ rfl
                rintro _ rfl
                refine askl_do rfl fun K hK => ?_
                go_simp
                refine (HE2.out vs w' hC).mono ?_
                rintro e w3 ⟨rfl, hg3⟩
                exact hK _ _ rfl ⟨rfl, hg3⟩
              -- op 26 (slot 98): build
              refine LateR.mono (Qv.eq (.agg #[.int .u64 ea, .int .u64 eb])) [(15, 87), (25, 97)] (by kernel_rfl) (by rfl) rfl (fun vs w' hC => ?_) ?_
              · rintro _ rfl
                rintro _ rfl
                refine askl_do rfl fun K hK => ?_
                go_simp
                exact hK _ _ rfl ⟨rfl, World.grownBy.refl _ none⟩
              -- op 27 (slot 99): buildSlice
              refine LateR.mono (evP NN ea eb) [(26, 98)] (by kernel_rfl) (by rfl) rfl (fun vs w' hC => ?_) ?_
              · rintro _ rfl
                refine askl_do rfl fun K hK => ?_
                have hsz := HSZ.out vs w' hC
                go_simp
                exact hK _ _ rfl ⟨fun _ => ⟨_, rfl, hsz, Bk.new w' _ _⟩, World.grownBy_alloc w' _ none⟩
              -- op 28 (slot 100): call
              refine LateR.turn 0 [(5, 77), (27, 99)] (by kernel_rfl) rfl (fun vs w' hl hC => ?_) ?_
              · rintro _ rfl
                intro x99 h99
                have h99 : vs = [] → BlkP NN ea eb x99 w' := h99
                refine askl_do rfl fun K hK => ?_
                obtain rfl : vs = [] := List.eq_nil_of_length_eq_zero hl
                obtain ⟨g1, g2, g3⟩ := hC
                obtain ⟨b99, e99, hb99, hk99⟩ := h99 rfl
                subst e99
                refine pushAt_core (E := encP) (y := (ea, eb)) el_pair g3 ⟨rfl, HUA.out, HUB.out⟩ (Bk.two hk99) HLB.out (Nat.le_trans HNB.out g2) (fun g hg => Nat.le_trans (Nat.le_trans HNB.out g2) hg) (.tmp 77) (.tmp 99) rfl rfl rfl ?_
                intro v3 w3 ha hgr hm
                exact hK _ _ rfl ⟨trivial, g1.trans hgr, Nat.le_trans g2 hgr.size, ha⟩
              -- op 29 (slot 101): indexAddr
              refine LateR.mono (Qv.eq (.pointer (some ⟨Bs, i, none⟩))) [(0, 72), (1, 73)] (by kernel_rfl) (by rfl) rfl (fun vs w' hC => ?_) ?_
              · rintro _ rfl
                rintro _ rfl
                refine askl_do rfl fun K hK => ?_
                go_simp
                exact hK _ _ rfl ⟨rfl, World.grownBy.refl _ none⟩
              intro vs w5 hvl hC5
              obtain ⟨u, rfl⟩ : ∃ u, vs = [u] := List.length_eq_one_iff.1 hvl
              intro y0 k0 y1 k1 y2 k2 y3 k3 y4 k4 y5 k5 y6 k6 y7 k7 y8 k8 y9 k9 y10 k10 y11 k11 y12 k12 y13 k13 y14 k14 y15 k15 y16 k16 y17 k17 y18 k18 y19 k19 y20 k20 y21 k21 y22 k22 y23 k23 y24 k24 y25 k25 y26 k26 y27 k27 y28 k28 y29 k29
              show wpList Tryz.prog _ _ _ _ w5
              simp only [Act.put, List.setIfInBounds_toArray, List.set_cons_zero, List.set_cons_succ]
              have e28 : y28 = u := by have : some u = some y28 := k28; injection this with this; exact this.symm
              have e29 : y29 = .pointer (some ⟨Bs, i, none⟩) := k29
              subst e28 e29
              have HF5 := Lib.hid (HFR.out w5 y28 hC5)
              have hz5 := HFRZ.out w5 _ hC5
              have c5 : w5.cell? ⟨Bs, i, none⟩ = some (.slice Av nv cv) := by rw [hz5.cell i]; simp [HIH.out]
              have f5 := hz5.free
              have HA5 : Hid (Acc encP wj.heap.size 58 (fun b => wj.heap.size ≤ b) w5 y28 (evsI p F R i s ++ [(ea, eb)])) := Lib.hid hC5.2.2
              obtain ⟨Au, nu, cu, eu⟩ := HA5.out.sl.shape
              subst eu
              clear hC5 hz5 HA5 k0 k1 k2 k3 k4 k5 k6 k7 k8 k9 k10 k11 k12 k13 k14 k15 k16 k17 k18 k19 k20 k21 k22 k23 k24 k25 k26 k27 k28 k29 HLD HSZ HFR HFRZ HC0 HE1 HE2
              go_wp2_with fail
              go_roundg q
              case measure => omega
              case rel => exact ⟨s + 1, _, by omega, by go_num, HF5⟩
    | succ m =>
      have hin : (s : Int) < (L : Int) := by omega
      have hsl : s < l.length := by have := HLN.out; omega
      obtain ⟨gl, ol, cl, el, _, _, hcl, hul⟩ := (HLX.out _ HG3.out).atU hsl
      injection el with el1 el2 el3
      subst el1 el3
      obtain ⟨kb, hkb⟩ : ∃ y, y = k0 + s * (2 * T + 1) := ⟨_, rfl⟩
      have hkm : kb + (2 * T + 1) ≤ most := by
        have h1 : (s + 1) * (2 * T + 1) ≤ L * (2 * T + 1) := Nat.mul_le_mul_right _ (by omega)
        have h2 := HMO.out
        rw [Nat.add_mul, Nat.one_mul] at h1
        omega
      have HKN : Hid (k0 + (s + 1) * (2 * T + 1) = kb + T + 1 + T) := Lib.hid (by rw [hkb, Nat.add_mul, Nat.one_mul]; omega)
      have HFN : Hid (dealFs l p.Q dr T k0 (s + 1) = dealFs l p.Q dr T k0 s ++ [behI l[s] p.Q dr T kb]) := Lib.hid (by
        rw [hkb]
        refine (dsnoc _ _).trans ?_
        show _ ++ [behI (l[s]?.getD 0) p.Q dr T (k0 + s * (2 * T + 1))] = _
        rw [List.getElem?_eq_getElem hsl]
        rfl)
      have HRN : Hid (dealRs p.Q dr T k0 (s + 1) = dealRs p.Q dr T k0 s ++ [behI (dr (kb + T)) p.Q dr T (kb + T + 1)]) := Lib.hid (by
        rw [hkb]
        exact dsnoc _ _)
      rw [← hkb] at HI3
      have HB1 := Lib.hid (HBH.out l[s] kb wr hul (by omega) HI3.out)
      obtain ⟨y, hy⟩ : ∃ y, y = behI l[s] p.Q dr T kb := ⟨_, rfl⟩
      rw [← hy] at HFN HB1
      obtain ⟨z, hz⟩ : ∃ y, y = behI (dr (kb + T)) p.Q dr T (kb + T + 1) := ⟨_, rfl⟩
      rw [← hz] at HRN
      have HZ := Lib.hid hz
      have HLF : Hid (((dealFs l p.Q dr T k0 s).length + 1) * 24 ≤ 140737488355328) := Lib.hid (by simp [dealFs]; omega)
      have HLR : Hid (((dealRs p.Q dr T k0 s).length + 1) * 24 ≤ 140737488355328) := Lib.hid (by simp [dealRs]; omega)
      have HOWN : Hid ((∀ r, u10.ownBlock = some r → r < wr.heap.size) ∧ (∀ r, u11.ownBlock = some r → r < wr.heap.size)) := Lib.hid ⟨fun r e => (HS0.out.fst.lt r e).2, fun r e => (HS0.out.snd.lt r e).2⟩
      have HZR : Hid (w2.heap.size ≤ wr.heap.size) := Lib.hid HG3.out.size
      clear hkb hy hz el2
      generalize l[s] = x at *
      go_wp2_with fail
      refine HB1.out.mono ?_
      rintro e w3 ⟨v42, rfl, hs3, hi3, hg3⟩
      obtain ⟨A42, n42, c42, rfl⟩ := hs3.shape
      have HG4 : Hid (w2.grownBy w3 (some g)) := Lib.hid (HG3.out.trans hg3)
      have HI4 := Lib.hid hi3
      have HS4 := Lib.hid (HS0.out.keep hg3 (fun b hb e => by injection e with e; have := HW2.out; omega))
      have HREP : Hid ((encS encU).rep (fun b => (w2.heap.size ≤ b ∧ some b ≠ u11.ownBlock) ∧ some b ≠ u10.ownBlock) w3 [.slice A42 n42 c42] y) := Lib.hid ⟨_, rfl, hs3.more fun b _ hb => ⟨⟨Nat.le_trans HZR.out hb, fun e => by have := HOWN.out.2 b e.symm; omega⟩, fun e => by have := HOWN.out.1 b e.symm; omega⟩⟩
      have HZ4 : Hid (w2.heap.size ≤ w3.heap.size) := Lib.hid HG4.out.size
      clear hs3 hi3 hg3 hp3 hcl
      go_wp2_with (at_builtin; refine wpList_push rfl (.tmp 35) (.tmp 43) rfl (E := encS encU) (y := y) el_nums HS4.out.fst rfl rfl HREP.out HLF.out HZ4.out (HS4.out.new1 (fun _ h => Nat.le_trans HZ4.out h)) ?_)
      intro v10 w4 ha hg hm
      have HS5 := Lib.hid (HS4.out.one ha hg hm)
      have HG5 : Hid (w2.grownBy w4 (some g)) := Lib.hid (HG4.out.andThen hg (fun j e => .inl (HS4.out.fst.lt j e).1))
      have HI5 : Hid (TI (kb + T) w4) := Lib.hid (HT.out.keep HI4.out hg (fun b e hb => by have := (HS4.out.fst.lt b e).1; have := HOB.out b hb; have := HW2.out; omega))
      obtain ⟨A10, n10, c10, e10⟩ := HS5.out.fst.sl.shape
      subst e10
      obtain ⟨A11, n11, c11, e11⟩ := HS5.out.snd.sl.shape
      subst e11
      clear ha hg hm
      have hp5 : ∀ o, w4.drew.cell? ⟨w.heap.size, o, none⟩ = (#[.int .u64 p.P, .int .u64 p.Q, .int .u64 p.G, .int .u64 p.H, .int .i64 p.Nodes, .int .i64 p.N, .int .i64 p.T, .int .i64 p.K, .int .i64 p.D, .int .i64 p.R, .int .i64 p.M, .int .i64 p.X] : Array Value)[o]? := (HPX.out _ HG5.out).prule
      have HI6 : Hid (TI (kb + T) w4.drew) := Lib.hid (HT.out.keep HI5.out (grown_drewN' _ 1) (by simp))
      have HS6 := Lib.hid (HS5.out.kept (grown_drewN' _ 1))
      have HG6 : Hid (w2.grownBy w4.drew (some g)) := Lib.hid (HG5.out.trans ((grown_drewN' _ 1).but _))
      have HN6 := Lib.hid (HNX.out (kb + T) w4.drew (by omega) HI6.out)
      have HVU := Lib.hid (HT.out.val (kb + T))
      have hkm2 : kb + T + 1 + T ≤ most := by omega
      go_upto_region 9 with (fail)
      go_region_held3 (fun w' => ∀ o, w'.cell? ⟨w.heap.size, o, none⟩ = (#[.int .u64 p.P, .int .u64 p.Q, .int .u64 p.G, .int .u64 p.H, .int .i64 p.Nodes, .int .i64 p.N, .int .i64 p.T, .int .i64 p.K, .int .i64 p.D, .int .i64 p.R, .int .i64 p.M, .int .i64 p.X] : Array Value)[o]?) (first | assumption | (refine rule_alloc ?_ ?_ _ <;> assumption) | go_keep)
        (first
        | (go_at_call 80; (with_reducible refine HN6.out.mono ?_); rintro e w5 ⟨rfl, hi5, hg5⟩; have HI7 := Lib.hid hi5; have HG7 : Hid (w2.grownBy w5 (some g)) := Lib.hid (HG6.out.trans hg5); have HS7 := Lib.hid (HS6.out.keep hg5 (fun b hb e => by injection e with e; have := HW2.out; omega)); have hp7 := (HPX.out _ HG7.out).prule; have HB7 := Lib.hid (HBH.out (dr (kb + T)) (kb + T + 1) w5 HVU.out hkm2 HI7.out); have hz7 : w5.heap.size = w5.heap.size := rfl; clear hi5 hg5)
        | (go_at_call 81; (with_reducible refine HB7.out.mono ?_); rintro e w6 ⟨v55, rfl, hs6, hi6, hg6⟩; obtain ⟨A55, n55, c55, rfl⟩ := hs6.shape; have HI8 := Lib.hid hi6; have HG8 : Hid (w2.grownBy w6 (some g)) := Lib.hid (HG7.out.trans hg6); have HS8 := Lib.hid (HS7.out.keep hg6 (fun b hb e => by injection e with e; have := HW2.out; omega)); have hp8 := (HPX.out _ HG8.out).prule; have lp8 : w.heap.size < w6.heap.size := (HPX.out _ HG8.out).lt; have HZ8 : Hid (w2.heap.size ≤ w6.heap.size) := Lib.hid HG8.out.size; have HREP2 : Hid ((encS encU).rep (fun b => (w2.heap.size ≤ b ∧ some b ≠ (Value.slice A10 n10 c10).ownBlock) ∧ some b ≠ (Value.slice A11 n11 c11).ownBlock) w6 [.slice A55 n55 c55] z) := Lib.hid ⟨_, rfl, by rw [HZ.out]; exact hs6.more fun b _ hb => ⟨⟨Nat.le_trans HG7.out.size hb, fun e => by have := (HS7.out.fst.lt b e.symm).2; omega⟩, fun e => by have := (HS7.out.snd.lt b e.symm).2; omega⟩⟩; clear hs6 hi6 hg6)
        | (refine step_push rfl (.tmp 45) (.tmp 56) rfl (E := encS encU) (y := z) el_nums HS8.out.snd rfl rfl HREP2.out HLR.out HZ8.out (HS8.out.new2 (fun _ h => Nat.le_trans HZ8.out h)) ?_; intro v11 w7 ha hg hm; have HS9 := Lib.hid (HS8.out.two ha hg hm); have HG9 : Hid (w2.grownBy w7 (some g)) := Lib.hid (HG8.out.andThen hg (fun j e => .inl (HS8.out.snd.lt j e).1)); have HI9 : Hid (TI (kb + T + 1 + T) w7) := Lib.hid (HT.out.keep HI8.out hg (fun b e hb => by have := (HS8.out.snd.lt b e).1; have := HOB.out b hb; have := HW2.out; omega)); have hp9 := (HPX.out _ HG9.out).prule; clear ha hg hm))
      have HFIN : Hid (Side (encS encU) (encS encU) w2.heap.size 25 25 (fun b => w2.heap.size ≤ b) w7 (.slice A10 n10 c10) v11 (dealFs l p.Q dr T k0 (s + 1)) (dealRs p.Q dr T k0 (s + 1)) ∧ TI (k0 + (s + 1) * (2 * T + 1)) w7 ∧ w2.grownBy w7 (some g)) := Lib.hid ⟨by rw [HFN.out, HRN.out]; exact HS9.out, by rw [HKN.out]; exact HI9.out, HG9.out⟩
      go_wp2_with fail
      go_roundg m
      case measure => omega
      case rel => exact ⟨s + 1, by omega, by go_num, HFIN⟩
theorem dmodel_any (p : Par) (vl : Value) (l : List Int) (X : Nat → Prop) (w : World) {g : Nat} {dr : Nat → Int} {TI : Nat → World → Prop} {bl : Nat → Prop} {most : Nat} (hT : Tp g p.Q dr TI bl most) (hp : p.ok) (hm : mayP p = true) (hTab : TabsAt w) (h : Sl encU X w vl l) (hX : ∀ b, X b → b ≠ g) (hl : (l.length : Int) = secretsI p) (k0 T : Nat) (hTT : (T : Int) = p.T) (hI : TI k0 w) (hmost : k0 + l.length * (2 * T + 1) ≤ most) :
    Calls Tryz.prog 30 #[p.v, vl, .pointer (some ⟨g, 0, none⟩)] w fun e w' => ∃ vs vc, e = .returned (.tuple #[vs, vc, .int .i64 0]) ∧ Sl (encS encP) TT w' vs ((List.range p.N.toNat).map fun i : Nat => dealtI p (dealFs l p.Q dr T k0 l.length) (dealRs p.Q dr T k0 l.length) ((i : Int) + 1)) ∧ Sl (encS encU) TT w' vc (comsI p (dealFs l p.Q dr T k0 l.length) (dealRs p.Q dr T k0 l.length)) ∧ TI (k0 + l.length * (2 * T + 1)) w' ∧ w.grownBy w' (some g) := (dmodel_new p vl l X w hT hp hm hTab h hX hl k0 T hTT hI hmost).mono fun _ _ ⟨vs, vc, e, h1, h2, h3⟩ => ⟨vs, vc, e, h1.more fun _ _ _ => trivial, h2.more fun _ _ _ => trivial, h3⟩
end Go.Proofs.YtnjkelojkoeihaaGreatDoor

namespace Go.Proofs.YtnjkelojkoeihaaGreatDoor
open Go Go.RowKit

def dltN (p : Par) : Nat := p.K.toNat * (p.D.toNat + 1)
def dltT (p : Par) : Nat := p.T.toNat
def dltS (p : Par) (l : List Int) : List Int := sec18 l (dltN p)
def dltD (p : Par) (seed : Int) : Nat → Int := fun k => drawX p.Q (seedS p.Q seed k)
def dltF (p : Par) (l : List Int) (seed : Int) : List (List Int) := dealFs (dltS p l) p.Q (dltD p seed) (dltT p) 0 (dltN p)
def dltR (p : Par) (seed : Int) : List (List Int) := dealRs p.Q (dltD p seed) (dltT p) 0 (dltN p)
/-- The share of i, the commitments. -/
def dltX (p : Par) (l : List Int) (seed i : Int) : List (Int × Int) := dealtI p (dltF p l seed) (dltR p seed) i
def dltC (p : Par) (l : List Int) (seed : Int) : List (List Int) := comsI p (dltF p l seed) (dltR p seed)
/-- How many draws came ahead. -/
def dltK (p : Par) : Nat := dltN p * (2 * dltT p + 1)
/-- What is dealt: the polynomials of two, the matrix, the rows and columns. -/
def dltMF (p : Par) (l : List Int) (seed i : Int) : List (List (List Int)) := makeFs (dltX p l seed i) p.Q (dltD p seed) (dltT p + 1) (dltK p) (dltN p)
def dltMB (p : Par) (l : List Int) (seed i : Int) : List (List (List Int)) := makeBs (dltX p l seed i) p.Q (dltD p seed) (dltT p + 1) (dltK p) (dltN p)
def dltM (p : Par) (l : List Int) (seed i : Int) : List (List (List Int)) := matI p (dltMF p l seed i) (dltMB p l seed i)
def dltRow (p : Par) (l : List Int) (seed i j : Int) : List (List (Int × Int)) := rowsP p.Q (dltMF p l seed i) (dltMB p l seed i) (dltT p + 1) j
def dltCol (p : Par) (l : List Int) (seed i j : Int) : List (List (Int × Int)) := colsP p.Q (dltMF p l seed i) (dltMB p l seed i) (dltT p + 1) j
section
variable {p : Par} (hm : mayP p = true)
include hm
theorem dlt_sizes : 1 ≤ dltT p ∧ dltT p ≤ 2 ∧ 2 ≤ dltN p ∧ dltN p ≤ 10 ∧ (dltN p : Int) = secretsI p ∧ (dltT p : Int) = p.T ∧ 4 ≤ p.N ∧ p.N ≤ 7 ∧ 3 * p.T + 1 ≤ p.N := by
  obtain ⟨hq, hP, ha, n1, n2, n3, t1, t2, t3, hs, k1, d1⟩ := may_apart hm
  obtain ⟨sk1, sk2, sd1, sd2, _⟩ := may_sizes hm
  have hsec := secretsI_eq hm
  have h1 : p.K.toNat * (p.D.toNat + 1) ≤ 2 * 5 := Nat.mul_le_mul (by omega) (by omega)
  have h2 : 1 * 2 ≤ p.K.toNat * (p.D.toNat + 1) := Nat.mul_le_mul (by omega) (by omega)
  unfold dltN dltT
  refine ⟨by omega, by omega, by omega, by omega, by rw [hsec], by omega, n1, n2, t3⟩
theorem dlt_q : 0 < p.Q := mayB_pos (may_apart hm).1
end
theorem dltD_U64 {p : Par} (hq : U64 p.Q) (seed : Int) (k : Nat) : U64 (dltD p seed k) := drawX_U64 p.Q _ hq
theorem dltS_len (p : Par) (l : List Int) : (dltS p l).length = dltN p := by simp [dltS, sec18]
theorem dltF_len (p : Par) (l : List Int) (seed : Int) : (dltF p l seed).length = dltN p := by simp [dltF, dealFs]
theorem dltR_len (p : Par) (seed : Int) : (dltR p seed).length = dltN p := by simp [dltR, dealRs]
theorem dltX_len (p : Par) (l : List Int) (seed i : Int) : (dltX p l seed i).length = dltN p := by simp [dltX, dealtI, dltF_len]
theorem dltX_below {p : Par} (hm : mayP p = true) (l : List Int) (seed i : Int) : ∀ x ∈ dltX p l seed i, (0 ≤ x.1 ∧ x.1 < p.Q) ∧ 0 ≤ x.2 ∧ x.2 < p.Q := fun x hx => by
  obtain ⟨s, _, rfl⟩ := List.mem_map.1 hx
  exact ⟨evalI_bd (may_apart hm).1 _ _, evalI_bd (may_apart hm).1 _ _⟩
theorem dltRow_in (p : Par) (l : List Int) (seed i j : Int) : ∀ c ∈ dltRow p l seed i j, c.length = dltT p + 1 := fun c hc => by
  obtain ⟨s, _, rfl⟩ := List.mem_map.1 hc
  simp [rowP, zipP]
theorem dltCol_in (p : Par) (l : List Int) (seed i j : Int) : ∀ c ∈ dltCol p l seed i j, c.length = dltT p + 1 := fun c hc => by
  obtain ⟨s, _, rfl⟩ := List.mem_map.1 hc
  simp [colP, zipP]
/-- The first numbers of what is dealt: the share's. -/
theorem dlt_heads (p : Par) (l : List Int) (seed i : Int) {s : Nat} (hs : s < dltN p) : (((dltMF p l seed i)[s]?.getD [])[0]?.getD [])[0]?.getD 0 = ((dltX p l seed i)[s]?.getD (0, 0)).1 % p.Q ∧ (((dltMB p l seed i)[s]?.getD [])[0]?.getD [])[0]?.getD 0 = ((dltX p l seed i)[s]?.getD (0, 0)).2 % p.Q := by
  unfold dltMF dltMB makeFs makeBs
  rw [List.getElem?_map, List.getElem?_map, List.getElem?_range hs]
  exact ⟨twoL_head (by omega), twoL_head (by omega)⟩
theorem dltX_mod {p : Par} (hm : mayP p = true) (l : List Int) (seed i : Int) {s : Nat} (hs : s < dltN p) : ((dltX p l seed i)[s]?.getD (0, 0)).1 % p.Q = ((dltX p l seed i)[s]?.getD (0, 0)).1 ∧ ((dltX p l seed i)[s]?.getD (0, 0)).2 % p.Q = ((dltX p l seed i)[s]?.getD (0, 0)).2 := by
  have hl : s < (dltX p l seed i).length := by rw [dltX_len]; exact hs
  rw [List.getElem?_eq_getElem hl, Option.getD_some]
  obtain ⟨⟨a, b⟩, c, d⟩ := dltX_below hm l seed i _ (List.getElem_mem hl)
  exact ⟨Int.emod_eq_of_lt a b, Int.emod_eq_of_lt c d⟩
theorem dltC_len (p : Par) (l : List Int) (seed : Int) : (dltC p l seed).length = dltN p := by
  unfold dltC
  rw [comsI_pairs p (by rw [dltF_len, dltR_len])]
  simp [dltF_len]
theorem behI_rect {q : Int} (hq : 0 < q) {dr : Nat → Int} (hd : ∀ k, 0 ≤ dr k) (x : Int) (T k : Nat) : (behI x q dr T k).length = T + 1 ∧ ∀ y ∈ behI x q dr T k, 0 ≤ y := ⟨behI_len _ _ _ _ _, fun y hy => by
  simp only [behI, List.mem_cons, List.mem_map] at hy
  rcases hy with rfl | ⟨j, _, rfl⟩
  · exact Int.emod_nonneg _ (by omega)
  · exact hd _⟩
section
variable {p : Par} (hm : mayP p = true) (hq : U64 p.Q) (l : List Int) (seed i : Int)
include hm hq
theorem dltF_rect : Rect (dltT p + 1) (dltF p l seed) := fun r hr => by
  unfold dltF at hr
  obtain ⟨i, _, rfl⟩ := List.mem_map.1 hr
  exact behI_rect (dlt_q hm) (fun k => (dltD_U64 hq seed k).1) _ _ _
theorem dltR_rect : Rect (dltT p + 1) (dltR p seed) := fun r hr => by
  unfold dltR at hr
  obtain ⟨i, _, rfl⟩ := List.mem_map.1 hr
  exact behI_rect (dlt_q hm) (fun k => (dltD_U64 hq seed k).1) _ _ _
theorem dltC_formed : formedB p (dltC p l seed) = true := by
  obtain ⟨h1, h2, h3, h4, h5, h6, _⟩ := dlt_sizes hm
  exact deal_formed hm (t := dltT p + 1) (by omega) (by rw [dltF_len, h5]) (by rw [dltF_len, dltR_len]) (dltF_rect hm hq l seed) (dltR_rect hm hq seed)
theorem dltX_fits (hi : 0 ≤ i) : fitsI p (dltC p l seed) i (dltX p l seed i) = true :=
  deal_fits hm (by rw [dltF_len, dltR_len]) (dltF_rect hm hq l seed) (dltR_rect hm hq seed) hi
theorem dlt_squares : Squares p.Q (dltT p + 1) (dltN p) (dltMF p l seed i) (dltMB p l seed i) := make_squares (by omega) (dlt_q hm) (fun k => (dltD_U64 hq seed k).1)
theorem dltM_square : squareB p (dltM p l seed i) = true := by
  obtain ⟨h1, h2, h3, h4, h5, h6, _⟩ := dlt_sizes hm
  exact square_coms (good_of hm) (n := dltT p + 1) (S := dltN p) (by omega) h5.symm (dlt_squares hm hq l seed i).f (dlt_squares hm hq l seed i).b
theorem dltM_len : (dltM p l seed i).length = dltN p := by
  have h := dlt_squares hm hq l seed i
  simp [dltM, matI, zipS, h.f.1, h.b.1]
theorem dltM_rect : ∀ M ∈ dltM p l seed i, M.length = dltT p + 1 ∧ ∀ r ∈ M, r.length = dltT p + 1 := fun M hM => by
  have h := dlt_squares hm hq l seed i
  simp only [dltM, matI, zipS, List.map_map, h.f.1, h.b.1, Nat.max_self, List.mem_map, List.mem_range, Function.comp] at hM
  obtain ⟨s, hs, rfl⟩ := hM
  obtain ⟨a, e1, s1⟩ := h.atF hs
  obtain ⟨b, e2, s2⟩ := h.atB hs
  simp only [e1, e2, Option.getD_some]
  exact coms_rect s1 s2
theorem dltRow_len (j : Int) : (dltRow p l seed i j).length = dltN p := by
  have h := dlt_squares hm hq l seed i
  simp [dltRow, rowsP, h.f.1]
theorem dltCol_len (j : Int) : (dltCol p l seed i j).length = dltN p := by
  have h := dlt_squares hm hq l seed i
  simp [dltCol, colsP, h.f.1]
/-- DealMeets, the plain law. -/
theorem dlt_rows {j : Int} (hj : 0 ≤ j) : rowComsI p (dltM p l seed i) j = (dltRow p l seed i j).map fun c => c.map (commitI p) := rows_coms (good_of hm) (by omega) (dlt_squares hm hq l seed i) hj
theorem dlt_cols {j : Int} (hj : 0 ≤ j) : colComsI p (dltM p l seed i) j = (dltCol p l seed i j).map fun c => c.map (commitI p) := cols_coms (good_of hm) (by omega) (dlt_squares hm hq l seed i) hj
theorem dlt_meet (j m : Int) : (dltRow p l seed i j).map (atP p.Q m) = (dltCol p l seed i m).map (atP p.Q j) := meets_law (may_apart hm).1 (dlt_squares hm hq l seed i) j m
theorem dlt_point {j m : Int} (hj : 0 ≤ j) (hm2 : 0 ≤ m) : fitsI p (rowComsI p (dltM p l seed i) j) m ((dltRow p l seed i j).map (atP p.Q m)) = true := point_fits hm (by omega) (dlt_squares hm hq l seed i) hj hm2
/-- DealShares, the plain law: what members' rows are at 0 comes to the share. -/
theorem dlt_back {at_ : List Int} (hpl : Places p.N at_) (hat : at_.length = dltT p + 1) : ((List.range (dltN p)).map fun s => aS p.Q (at_.map fun x => (dltRow p l seed i x).map (atP p.Q 0)) (wList p.Q at_ 0) s (dltT p + 1)) = dltX p l seed i := by
  obtain ⟨h1, h2, h3, h4, h5, h6, _⟩ := dlt_sizes hm
  refine List.ext_getElem (by simp [dltX_len]) fun s g1 g2 => ?_
  have hs : s < dltN p := by simpa using g1
  rw [List.getElem_map, List.getElem_range]
  have e := points_back hm (t := dltT p + 1) (by omega) (dlt_squares hm hq l seed i) hpl hat hs
  unfold dltRow
  rw [e, (dlt_heads p l seed i hs).1, (dlt_heads p l seed i hs).2, (dltX_mod hm l seed i hs).1, (dltX_mod hm l seed i hs).1, (dltX_mod hm l seed i hs).2, (dltX_mod hm l seed i hs).2, List.getElem?_eq_getElem g2]
  rfl
/-- .. the matrix is bonded just to places with the dealer's share. -/
theorem dlt_bond (hi : 0 ≤ i) (k : Int) : bondedB p (dltM p l seed i) (dltC p l seed) k = decide (shareI p (dltC p l seed) k = shareI p (dltC p l seed) i) := by
  obtain ⟨h1, h2, h3, h4, h5, h6, _⟩ := dlt_sizes hm
  have hfit := dltX_fits hm hq l seed i hi
  simp only [fitsI, decide_eq_true_eq] at hfit
  have hsq := dlt_squares hm hq l seed i
  unfold bondedB
  rw [dltM_square hm hq l seed i, dltC_formed hm hq l seed, Bool.true_and, Bool.true_and, dltC_len p l seed]
  have hone : ∀ s, s < dltN p → bondOne p (dltM p l seed i) (shareI p (dltC p l seed) k) s = decide ((shareI p (dltC p l seed) i)[s]?.getD 0 = (shareI p (dltC p l seed) k)[s]?.getD 0) := fun s hs => by
    have hl : s < (dltM p l seed i).length := by rw [dltM_len hm hq l seed i]; exact hs
    have hr := dltM_rect hm hq l seed i _ (List.getElem_mem hl)
    unfold bondOne
    have e1 : decide (((dltM p l seed i)[s]?.getD []).length ≠ 0) = true := by
      rw [List.getElem?_eq_getElem hl, Option.getD_some]
      simp [hr.1]
    rw [e1, Bool.true_and]
    have e2 : headI ((dltM p l seed i)[s]?.getD []) = (shareI p (dltC p l seed) i)[s]?.getD 0 := by
      rw [← hfit]
      have hx : s < (dltX p l seed i).length := by rw [dltX_len]; exact hs
      rw [List.getElem?_map, List.getElem?_eq_getElem hx, Option.map_some, Option.getD_some]
      obtain ⟨a, f1, s1⟩ := hsq.atF hs
      obtain ⟨b, f2, s2⟩ := hsq.atB hs
      obtain ⟨q1, q2⟩ := dlt_heads p l seed i hs
      rw [f1, Option.getD_some, (dltX_mod hm l seed i hs).1, List.getElem?_eq_getElem hx, Option.getD_some] at q1
      rw [f2, Option.getD_some, (dltX_mod hm l seed i hs).2, List.getElem?_eq_getElem hx, Option.getD_some] at q2
      have e3 : (dltM p l seed i)[s]? = some (comsI p a b) := by
        simp only [dltM, matI, zipS, List.map_map, hsq.f.1, hsq.b.1, Nat.max_self]
        rw [List.getElem?_map, List.getElem?_range hs]
        simp [f1, f2]
      rw [e3, Option.getD_some, headI, comsI_eq p s1.1 s2.1, List.getElem?_map, List.getElem?_range (by omega), Option.map_some, Option.getD_some]
      obtain ⟨r1, g1, l1, _⟩ := s1.row (i := 0) (by omega)
      obtain ⟨r2, g2, l2, _⟩ := s2.row (i := 0) (by omega)
      rw [g1, Option.getD_some] at q1
      rw [g2, Option.getD_some] at q2
      rw [g1, g2, Option.getD_some, Option.getD_some, comI_eq p r1 r2 _ l1 l2, List.getElem?_map, List.getElem?_range (by omega), Option.map_some, Option.getD_some, q1, q2]
    rw [e2]
  have hlen : ∀ j, (shareI p (dltC p l seed) j).length = dltN p := fun j => by rw [shareI_length, dltC_len p l seed]
  rw [Bool.eq_iff_iff, List.all_eq_true, decide_eq_true_iff]
  constructor
  · intro h
    refine List.ext_getElem (by rw [hlen, hlen]) fun s g1 g2 => ?_
    have hs : s < dltN p := by rw [← hlen k]; exact g1
    have := h s (List.mem_range.2 hs)
    rw [hone s hs, decide_eq_true_iff, List.getElem?_eq_getElem g2, List.getElem?_eq_getElem g1, Option.getD_some, Option.getD_some] at this
    exact this.symm
  · intro h s hs
    rw [hone s (List.mem_range.1 hs), h]
    simp
end
end Go.Proofs.YtnjkelojkoeihaaGreatDoor

namespace Go.Proofs.YtnjkelojkoeihaaGreatDoor.FR
open Go

/-- Where the worlds stand when some late operations are over, these having told values; and what the k-th of them does to what lay there. -/
structure Lt where
  C : List (Nat × Value) → World → Prop
  R : Nat → Value → World → World → Prop
  G : World → World → Prop
  g : ∀ {vs w w'}, C vs w → G w w' → C vs w'
/-- What is known of a value, and stands: as long as nothing is written, and through the late operations from the fr-th on. -/
structure Qv (L : Lt) where
  p : List (Nat × Value) → Value → World → Prop
  st : ∀ {vs v w w'}, p vs v w → L.G w w' → p vs v w'
  sr : ∀ {vs q u v w w'}, L.C vs w → L.R q u w w' → p vs v w → p (vs ++ [(q, u)]) v w'
def Qv.any {L : Lt} : Qv L := ⟨fun _ _ _ => True, fun _ _ => trivial, fun _ _ _ => trivial⟩
def Qv.eq {L : Lt} (u : Value) : Qv L := ⟨fun _ v _ => v = u, fun h _ => h, fun _ _ h => h⟩
/-- What the q-th late operation has told. -/
def Qv.slot {L : Lt} (q : Nat) : Qv L := ⟨fun vs v _ => (q, v) ∈ vs, fun h _ => h, fun _ _ h => List.mem_append_left _ h⟩
section
variable {L : Lt} {late : List Nat} {P : Program} {ops : Array Oper} {Q : Exit → Act → World → Prop} {n : Nat} {a0 : Act} {w0 : World}

def ToldL (T : Value → World → Prop) (dst : Option Tmp) (ds : List Deferred) : Exit → Act → World → Prop := fun e a' w' => e = .normal ∧ a'.defers = ds ∧ T (match dst with | some d => a'.eval (.tmp d) | none => undef) w'
def Ask' (P : Program) (ops : Array Oper) (vs : List (Nat × Value)) (Vs : List (Qv L)) (Qt : Exit → Act → World → Prop) (o : Oper) (w : World) : List (Nat × Tmp) → Act → Prop
  | [], a => wpList P ops Qt [o] a w
  | (j, d) :: js, a => ∀ x, (Vs.getD j Qv.any).p vs x w → Ask' P ops vs Vs Qt o w js (a.put (some d) x)
/-- What is asked of one operation. -/
def AskL (L : Lt) (late : List Nat) (P : Program) (ops : Array Oper) (Vs : List (Qv L)) (ds : List Deferred) (i : Nat) (V : Qv L) (o : Oper) (js : List (Nat × Tmp)) (a0 : Act) : Prop :=
  (late.contains i = false ∧ ∀ vs w, L.C vs w → Ask' P ops vs Vs (ToldL (fun v w' => V.p vs v w' ∧ L.G w w') o.dst ds) o w js a0) ∨
  (∃ (q : Nat) (rq : List Nat), late[q]? = some i ∧ (rq.all fun x => match late[x]? with | some k => Region.waitsFor .any ops i k | none => false) = true ∧ V = Qv.slot q ∧ ∀ vs w, q ∉ vs.map (·.1) → (∀ x ∈ rq, x ∈ vs.map (·.1)) → L.C vs w → Ask' P ops vs Vs (ToldL (fun v w' => L.R q v w w' ∧ L.C (vs ++ [(q, v)]) w') o.dst ds) o w js a0)
def LateR (L : Lt) (late : List Nat) (P : Program) (ops : Array Oper) (n : Nat) (a0 : Act) (F : List (Qv L) → Prop) : Nat → List (Qv L) → List Oper → Prop
  | 0, Rs, _ => F Rs.reverse
  | _ + 1, _, [] => False
  | k + 1, Rs, o :: os => ∃ (V : Qv L) (js : List (Nat × Tmp)), (pairB ops Rs.length js && lookB ops n Rs.length js) = true ∧ AskL L late P ops Rs.reverse a0.defers Rs.length V o js a0 ∧ LateR L late P ops n a0 F k (V :: Rs) os
theorem LateR.mono {F : List (Qv L) → Prop} {k : Nat} {Rs : List (Qv L)} {o : Oper} {os : List Oper} (V : Qv L) (js : List (Nat × Tmp)) (hc : (pairB ops Rs.length js && lookB ops n Rs.length js) = true) (hl : late.contains Rs.length = false) (hA : ∀ vs w, L.C vs w → Ask' P ops vs Rs.reverse (ToldL (fun v w' => V.p vs v w' ∧ L.G w w') o.dst a0.defers) o w js a0) (h : LateR L late P ops n a0 F k (V :: Rs) os) : LateR L late P ops n a0 F (k + 1) Rs (o :: os) := ⟨V, js, hc, .inl ⟨hl, hA⟩, h⟩
theorem LateR.turn {F : List (Qv L) → Prop} {k : Nat} {Rs : List (Qv L)} {o : Oper} {os : List Oper} (q : Nat) (js : List (Nat × Tmp)) (hc : (pairB ops Rs.length js && lookB ops n Rs.length js) = true) (rq : List Nat) (hl : late[q]? = some Rs.length) (hr : (rq.all fun x => match late[x]? with | some k => Region.waitsFor .any ops Rs.length k | none => false) = true) (hA : ∀ vs w, q ∉ vs.map (·.1) → (∀ x ∈ rq, x ∈ vs.map (·.1)) → L.C vs w → Ask' P ops vs Rs.reverse (ToldL (fun v w' => L.R q v w w' ∧ L.C (vs ++ [(q, v)]) w') o.dst a0.defers) o w js a0) (h : LateR L late P ops n a0 F k (Qv.slot q :: Rs) os) : LateR L late P ops n a0 F (k + 1) Rs (o :: os) := ⟨Qv.slot q, js, hc, .inr ⟨q, rq, hl, hr, rfl, hA⟩, h⟩
theorem LateR.out {F : List (Qv L) → Prop} : ∀ {k : Nat} {Rs : List (Qv L)} {os : List Oper}, LateR L late P ops n a0 F k Rs os → k ≤ os.length ∧ ∃ Ws : List (Qv L), Ws.length = k ∧ F (Rs.reverse ++ Ws) ∧ ∀ m o, m < k → os[m]? = some o → ∃ V js, Ws[m]? = some V ∧ (pairB ops (Rs.length + m) js && lookB ops n (Rs.length + m) js) = true ∧ AskL L late P ops ((Rs.reverse ++ Ws).take (Rs.length + m)) a0.defers (Rs.length + m) V o js a0
  | 0, Rs, os, h => ⟨Nat.zero_le _, [], rfl, by rw [List.append_nil]; exact h, fun m o hm => by omega⟩
  | _ + 1, _, [], h => h.elim
  | k + 1, Rs, o :: os, ⟨V, js, hb, hA, hM⟩ => by
    obtain ⟨hkl, Ws, hl, hF, hk⟩ := LateR.out hM
    refine ⟨by simpa using hkl, V :: Ws, by simp [hl], by simpa using hF, fun m o' hm ho => ?_⟩
    cases m with
    | zero =>
      obtain rfl : o = o' := by simpa using ho
      refine ⟨V, js, rfl, hb, ?_⟩
      have : (Rs.reverse ++ V :: Ws).take (Rs.length + 0) = Rs.reverse := by
        rw [Nat.add_zero, ← List.length_reverse]
        exact List.take_left
      rw [this]
      exact hA
    | succ m =>
      obtain ⟨V', js', h1, h2, h3⟩ := hk m o' (by omega) (by simpa using ho)
      refine ⟨V', js', by simpa using h1, ?_, ?_⟩
      · simpa [Nat.add_assoc, Nat.add_comm 1 m] using h2
      · simpa [Nat.add_assoc, Nat.add_comm 1 m] using h3
def FinL' (G : Act → World → Prop) (vs : List (Nat × Value)) (w : World) : List (Qv L) → List Oper → Act → Prop
  | V :: Vs, o :: os, a => ∀ x, V.p vs x w → FinL' G vs w Vs os (a.put o.dst x)
  | _, _, a => G a w
theorem FinL'.all {G : Act → World → Prop} {vs : List (Nat × Value)} {w : World} {b : Act} : ∀ {Vs : List (Qv L)} {os : List Oper} {a : Act}, Vs.length = os.length → (∀ (k : Nat) (V : Qv L) (o : Oper), Vs[k]? = some V → os[k]? = some o → V.p vs (match o.dst with | some d => b.eval (.tmp d) | none => undef) w) → FinL' G vs w Vs os a → G (onto b (os.map (·.dst)) a) w
  | [], [], _, _, _, h => h
  | V :: Vs, o :: os, a, hl, hx, h => FinL'.all (Vs := Vs) (os := os) (by simpa using hl) (fun k V o hv ho => hx (k + 1) V o (by simpa using hv) (by simpa using ho)) (h _ (hx 0 V o rfl rfl))
  | [], _ :: _, _, hl, _, _ => by simp at hl
  | _ :: _, [], _, hl, _, _ => by simp at hl
theorem Ask'.all {vs : List (Nat × Value)} {Vs : List (Qv L)} {Qt : Exit → Act → World → Prop} {o : Oper} {w : World} {b : Act} : ∀ {js : List (Nat × Tmp)} {a : Act}, (∀ x : Nat × Tmp, x ∈ js → (Vs.getD x.1 Qv.any).p vs (b.eval (.tmp x.2)) w) → Ask' P ops vs Vs Qt o w js a → wpList P ops Qt [o] (onto b (js.map fun x => some x.2) a) w
  | [], _, _, h => h
  | (j, d) :: js, a, hx, h => Ask'.all (js := js) (fun x hm => hx x (List.mem_cons_of_mem _ hm)) (h _ (hx (j, d) (by simp)))
/-- Which late operations are over. -/
def Cls (L : Lt) (late : List Nat) (vs : List (Nat × Value)) (D : Array Bool) (w : World) : Prop := ((vs.map (·.1)).Nodup ∧ ∀ q ∈ vs.map (·.1), q < late.length) ∧ L.C vs w ∧ ∀ q i, late[q]? = some i → (D.getD i false = true ↔ q ∈ vs.map (·.1))
structure LInv (L : Lt) (late : List Nat) (ops : Array Oper) (n : Nat) (a0 : Act) (Vs : List (Qv L)) (vs : List (Nat × Value)) (D : Array Bool) (a : Act) (w : World) : Prop where
  head : HeadInv .any ops n D
  cls : Cls L late vs D w
  tsize : a.tmps.size = a0.tmps.size
  defers : a.defers = a0.defers
  rest : ∀ t, (∀ j, j < n → D.getD j false = true → dstAt ops j ≠ some t) → a.tmps[t]? = a0.tmps[t]?
  known : ∀ j V, D.getD j false = true → Vs[j]? = some V → V.p vs (valOf (dstAt ops j) a) w
theorem toldL_letsOut {T : Value → World → Prop} {dst : Option Tmp} {ds : List Deferred} : ¬ LetsOut (ToldL T dst ds) := by
  rintro ⟨a, w', e, _⟩
  cases e
def lateB (n : Nat) (late : List Nat) : Bool := late.all (fun i => decide (i < n)) && decide late.Nodup
theorem toldL_op {T : Value → World → Prop} {o : Oper} {a b : Act} {w : World} (hs : ∀ cs b, o.op ≠ .select cs b) (hd : ∀ d, o.dst = some d → d < a.tmps.size) (hsz : b.tmps.size = a.tmps.size) (hlook : ∀ t ∈ o.looksAt ops, b.tmps[t]? = a.tmps[t]?) {i : Nat} (hi : ops[i]? = some o)
    (hdf : b.defers = a0.defers) (h : wpList P ops (ToldL T o.dst a0.defers) [o] b w) : wpOp P ops Q i (fun a' w' => ∃ v, a' = a.put o.dst v ∧ T (match o.dst with | some _ => v | none => undef) w') a w := by
  have hex : execOp b.eval o = execOp a.eval o := execOp_congr o hs fun x hx => by
    cases x with
    | tmp t => exact eval_of _ _ _ (hlook t (List.mem_append_left _ (List.mem_filterMap.2 ⟨.tmp t, by simpa using hx, rfl⟩)))
    | _ => rfl
  have hwn : Region.wanted o (yielded ops b.tmps) = Region.wanted o (yielded ops a.tmps) := by
    unfold Region.wanted
    cases hg : o.guard with
    | none => rfl
    | some gw =>
      obtain ⟨g, want⟩ := gw
      have hy : yielded ops b.tmps g = yielded ops a.tmps g := by
        unfold yielded
        cases ht : (ops[g]?).bind (·.dst) with
        | none => rfl
        | some t => simp only [Option.bind_some, hlook t (by simp [Oper.looksAt, hg, ht])]
      simp only [hy]
  have fin : ∀ v w', ToldL T o.dst a0.defers .normal (b.put o.dst v) w' → ∃ v', a.put o.dst v = a.put o.dst v' ∧ T (match o.dst with | some _ => v' | none => undef) w' := by
    rintro v w' ⟨_, _, h1⟩
    refine ⟨v, rfl, ?_⟩
    cases hdd : o.dst with
    | none => rw [hdd] at h1; exact h1
    | some d =>
      rw [hdd] at h1
      have hlt := hd d hdd
      have : (b.put (some d) v).eval (.tmp d) = v := by simp [Act.put, Act.eval, Array.getD_eq_getD_getElem?, hsz, hlt]
      simp only [this] at h1
      exact h1
  unfold wpOp
  simp only [hi]
  simp only [wpList, hwn] at h
  split
  · rename_i hw
    rw [if_pos hw] at h
    rcases h with h | h
    · left
      unfold Oper.wp at h ⊢
      rw [hex] at h
      generalize (execOp a.eval o).run P w = r at *
      cases r with
      | ok x w' =>
        cases x with
        | value v => exact fin v w' h
        | skip => exact fin undef w' h
        | enter f args =>
          refine Calls.mono h fun e w'' he => ?_
          cases e with
          | returned u => exact fin u w'' he
          | panicked c => exact absurd he.1 (by simp)
          | outgrown => exact absurd he toldL_letsOut
        | row row args => exact Rows.mono h fun u w'' he => fin u w'' he
        | defer d =>
          obtain ⟨_, h1, _⟩ := h
          have h1 : (Act.put { b with defers := d :: b.defers } o.dst undef).defers = a0.defers := h1
          rw [put_defers, ← hdf] at h1
          exact absurd (congrArg List.length h1) (by simp)
        | _ => exact h.elim
      | halt x w' =>
        cases x with
        | panic v => exact absurd h.1 (by simp)
        | _ => exact h.elim
    · exact absurd h.2 toldL_letsOut
  · rename_i hw
    rw [if_neg hw] at h
    exact fin undef w h
theorem linv_step {L : Lt} {late : List Nat} {vs vs2 : List (Nat × Value)} {Vs : List (Qv L)} {D : Array Bool} {a a' : Act} {w w' : World} {i : Nat} {o : Oper} {V : Qv L} {v : Value} (inv : LInv L late ops n a0 Vs vs D a w) (hd : distB ops n a0.tmps.size = true) (hi : i ∈ Region.ready .any ops D) (hin : i < n) (ho : ops[i]? = some o) (hV : Vs[i]? = some V) (hnl : Vs.length ≤ n)
    (ha : a' = a.put o.dst v) (hv : V.p vs2 (match o.dst with | some _ => v | none => undef) w') (hg : ∀ (W : Qv L) (j : Nat), D.getD j false = true → Vs[j]? = some W → ∀ {u : Value}, W.p vs u w → W.p vs2 u w') (hcl : Cls L late vs2 (D.setIfInBounds i true) w') : LInv L late ops n a0 Vs vs2 (D.setIfInBounds i true) a' w' := by
  subst ha
  have hdi : dstAt ops i = o.dst := by simp [dstAt, ho]
  have hun : D.getD i true = false := (mem_ready.1 hi).1
  have hlt : i < D.size := by
    rcases Nat.lt_or_ge i D.size with h' | h'
    · exact h'
    · simp [Array.getElem?_eq_none h'] at hun
  refine ⟨inv.head.set hi hin, hcl, (put_size _ _ _).trans inv.tsize, (put_defers _ _ _).trans inv.defers, fun t ht => ?_, fun j W hj hW => ?_⟩
  · have h1 : o.dst ≠ some t := fun e => ht i hin (by simp [hlt]) (hdi.trans e)
    refine Eq.trans ?_ (inv.rest t fun j hj hD => ht j hj (getD_set_true hD))
    cases hdd : o.dst with
    | none => rfl
    | some d => exact put_at _ _ _ _ (fun e => h1 (by rw [hdd, e]))
  · by_cases e : i = j
    · subst e
      obtain rfl : V = W := Option.some.inj (hV.symm.trans hW)
      rw [hdi]
      cases hdd : o.dst with
      | none => rw [hdd] at hv; exact hv
      | some d =>
        rw [hdd] at hv
        have hds := list_all_range hd hin
        rw [hdi, hdd] at hds
        simp only [Bool.and_eq_true, decide_eq_true_eq] at hds
        have : (a.put (some d) v).eval (.tmp d) = v := by simp [Act.put, Act.eval, Array.getD_eq_getD_getElem?, inv.tsize, hds.1]
        show V.p vs2 ((a.put (some d) v).eval (.tmp d)) w'
        rw [this]
        exact hv
    · have hjn : j < n := by have := (List.getElem?_eq_some_iff.1 hW).1; omega
      rw [getD_set_ne false e] at hj
      have h1 := hg W j hj hW (inv.known j W hj hW)
      cases hdj : dstAt ops j with
      | none => rw [hdj] at h1; exact h1
      | some dj =>
        rw [hdj] at h1
        have h1 : W.p vs2 (a.eval (.tmp dj)) w' := h1
        show W.p vs2 ((a.put o.dst v).eval (.tmp dj)) w'
        cases hdd : o.dst with
        | none => exact h1
        | some d =>
          have hds := list_all_range hd hin
          rw [hdi, hdd] at hds
          simp only [Bool.and_eq_true, decide_eq_true_eq] at hds
          have h2 := list_all_range hds.2 hjn
          simp only [Bool.or_eq_true, beq_iff_eq, bne_iff_ne, ne_eq] at h2
          have h3 : d ≠ dj := fun e' => (h2.resolve_left (fun e2 => e e2.symm)) (by rw [hdj, e'])
          rw [eval_of _ a dj (put_at a d dj v h3)]
          exact h1
/-- The law. -/
theorem wpAny_late {l : List Oper} (n : Nat) (hB : monoB l.toArray n a0.tmps.size = true) (hBl : lateB n late = true) (hC0 : L.C [] w0)
    (h : LateR L late P l.toArray n a0 (fun Vs => ∀ vs w, (vs.map (·.1)).Nodup ∧ (∀ q, q < late.length ↔ q ∈ vs.map (·.1)) → L.C vs w → FinL' (fun a w => wpList P l.toArray Q (l.drop n) a w) vs w Vs (l.take n) a0) n [] l) : wpAny P .any l.toArray Q l.toArray.size (Array.replicate l.toArray.size false) a0 w0 := by
  simp only [monoB, Bool.and_eq_true, decide_eq_true_eq] at hB
  obtain ⟨⟨⟨⟨hsel, hn⟩, htail⟩, htopo⟩, hdist⟩ := hB
  simp only [tailB, Bool.and_eq_true] at htail
  obtain ⟨hblk, hseq⟩ := htail
  simp only [lateB, Bool.and_eq_true, decide_eq_true_eq] at hBl
  obtain ⟨hlt0, hnd⟩ := hBl
  have hlate : ∀ i ∈ late, i < n := fun i hi => by simpa using List.all_eq_true.1 hlt0 i hi
  obtain ⟨_, Vs, hVl, hF, hO⟩ := LateR.out h
  rw [List.reverse_nil, List.nil_append] at hF
  simp only [List.reverse_nil, List.nil_append, List.length_nil, Nat.zero_add] at hO
  have hnl : n ≤ l.length := by simpa using hn
  have htl : (l.take n).length = n := by simp; omega
  have hVn : Vs.length = n := hVl
  have hdl : (l.drop n).length = l.toArray.size - n := by simp
  have hnext : ∀ i o, i < n → l.toArray[i]? = some o → (l.take n)[i]? = some o := fun i o hi ho => by
    rw [List.getElem?_take, if_pos hi]
    simpa using ho
  have key : ∀ m vs D a w, LInv L late l.toArray n a0 Vs vs D a w → cnt D n = m → wpAny P .any l.toArray Q (m + (l.toArray.size - n)) D a w := by
    intro m
    induction m with
    | zero =>
      intro vs D a w inv hc
      have hall := cnt_zero hc
      have hD : D = Array.replicate n true ++ Array.replicate (l.toArray.size - n) false := by
        have hsz := inv.head.size
        refine Array.ext (by simp [hsz]; omega) fun i h1 h2 => ?_
        rw [Array.getElem_append]
        by_cases hi : i < n
        · have := hall i hi
          simp [h1] at this
          simp [hi, this]
        · have := inv.head.tail i (by omega) (by omega)
          simp [h1] at this
          simp [hi, this]
      have hk : ∀ (k : Nat) (V : Qv L) (o : Oper), Vs[k]? = some V → (l.take n)[k]? = some o → V.p vs (match o.dst with | some d => a.eval (.tmp d) | none => undef) w := by
        intro k V o hv ho
        have hkn : k < n := by have := (List.getElem?_eq_some_iff.1 hv).1; omega
        have h1 := inv.known k V (hall k hkn) hv
        have h2 : dstAt l.toArray k = o.dst := by
          have : l[k]? = some o := by rw [List.getElem?_take, if_pos hkn] at ho; exact ho
          simp [dstAt, this]
        rw [h2] at h1
        have h3 : (match o.dst with | some d => a.eval (.tmp d) | none => undef) = valOf o.dst a := by cases o.dst <;> rfl
        rw [h3]
        exact h1
      have hcl : ((vs.map (·.1)).Nodup ∧ (∀ q, q < late.length ↔ q ∈ vs.map (·.1))) ∧ L.C vs w := by
        obtain ⟨hk0, hk1, hk2⟩ := inv.cls
        exact ⟨⟨hk0.1, fun q => ⟨fun h => (hk2 q late[q] (List.getElem?_eq_getElem h)).1 (hall _ (hlate _ (List.getElem_mem h))), hk0.2 q⟩⟩, hk1⟩
      have hfin := FinL'.all (hVl.trans htl.symm) hk (hF vs w hcl.1 hcl.2)
      have hon : onto a ((l.take n).map (·.dst)) a0 = a := by
        refine act_ext (fun t => onto_at a t _ _ inv.tsize.symm ?_) ((onto_defers _ _ _).trans inv.defers.symm)
        by_cases ht : some t ∈ (l.take n).map (·.dst)
        · exact .inl ht
        · refine .inr (inv.rest t fun j hj _ e => ht ?_).symm
          have hjl : j < l.length := by omega
          have : l[j].dst = some t := by simpa [dstAt, hjl] using e
          exact List.mem_map.2 ⟨l[j], List.mem_iff_getElem?.2 ⟨j, by rw [List.getElem?_take, if_pos hj, List.getElem?_eq_getElem hjl]⟩, this⟩
      rw [hon] at hfin
      have := wpAny_of_seq (md := .any) (Q' := Q) (l.drop n) n D a w (fun j => by simp [List.getElem?_drop]) (by rw [hdl, hD]; exact hseq) hfin
      rw [hdl] at this
      rwa [Nat.zero_add]
    | succ m ih =>
      intro vs D a w inv hc
      have hready : ∀ i ∈ Region.ready .any l.toArray D, i < n := by
        intro i hi
        rcases Nat.lt_or_ge i n with h' | h'
        · exact h'
        · obtain ⟨hu, oi, hoi, hall⟩ := mem_ready.1 hi
          have hlt : i < l.toArray.size := (Array.getElem?_eq_some_iff.1 hoi).1
          exfalso
          obtain ⟨k, hk, hkd⟩ : ∃ k, k < n ∧ D.getD k false = false := by
            refine Classical.byContradiction fun hno => ?_
            have : ∀ k, k ≤ n → cnt D k = 0 := by
              intro k
              induction k with
              | zero => intro _; rfl
              | succ k ihk =>
                intro hk
                have h1 : D.getD k false = true := by
                  refine Classical.byContradiction fun hx => hno ⟨k, by omega, by simpa using hx⟩
                simp only [cnt, h1, ihk (by omega)]
                rfl
            rw [this n (Nat.le_refl _)] at hc
            omega
          have hb := list_all_range hblk hlt
          simp only [Bool.or_eq_true, decide_eq_true_eq] at hb
          have hb := list_all_range (hb.resolve_left (by omega)) hk
          simp only [Bool.not_eq_true'] at hb
          have hik : i ≠ k := by omega
          have : av l.toArray k n i = true := by
            have hav := fun f j hj => av_of (ops := l.toArray) inv.head.closed inv.head.size hkd f j hj
            cases hn0 : n with
            | zero => simp [av, hik]
            | succ f =>
              simp only [av, hoi, Option.map_some, Option.getD_some, Bool.and_eq_true, bne_iff_ne]
              refine ⟨hik, ?_⟩
              rw [Array.all_eq_true_iff_forall_mem]
              intro e he
              by_cases hbd : Region.binds .any e = true
              · simp [hbd, hav f e.on (hall e he hbd)]
              · simp [hbd]
          rw [hb] at this
          cases this
      have hne : Region.ready .any l.toArray D ≠ [] := by
        have hex : ∃ k, k < n ∧ D.getD k false = false ∧ ∀ j, j < k → D.getD j false = true := by
          have : ∀ k, k ≤ n → (∃ q, q < k ∧ D.getD q false = false ∧ ∀ j, j < q → D.getD j false = true) ∨ (cnt D k = 0) := by
            intro k
            induction k with
            | zero => intro _; exact .inr rfl
            | succ k ihk =>
              intro hk
              rcases ihk (by omega) with ⟨q, h1, h2⟩ | h0
              · exact .inl ⟨q, by omega, h2⟩
              · cases hq : D.getD k false with
                | true => right; simp only [cnt, hq, h0]; rfl
                | false => exact .inl ⟨k, by omega, hq, cnt_zero h0⟩
          rcases this n (Nat.le_refl _) with ⟨q, h1, h2⟩ | h0
          · exact ⟨q, h1, h2⟩
          · omega
        obtain ⟨k, hk, hkd, hbel⟩ := hex
        have hkl : k < l.toArray.size := by omega
        have ho : l.toArray[k]? = some l.toArray[k] := Array.getElem?_eq_getElem hkl
        have : k ∈ Region.ready .any l.toArray D := by
          refine mem_ready.2 ⟨getD_in (by rw [inv.head.size]; exact hkl) hkd, _, ho, fun e he hb => hbel _ ?_⟩
          have ht := list_all_range htopo hk
          simp only [ho, Option.map_some, Option.getD_some] at ht
          have := Array.all_eq_true_iff_forall_mem.1 ht e he
          simpa [hb] using this
        intro e
        rw [e] at this
        cases this
      rw [show m + 1 + (l.toArray.size - n) = (m + (l.toArray.size - n)) + 1 by omega]
      refine ⟨fun e => absurd e hne, fun i hi => ?_⟩
      have hin := hready i hi
      obtain ⟨hu, o, ho, hall⟩ := mem_ready.1 hi
      obtain ⟨V, js, hV, hchk, hask⟩ := hO i o hin (by simpa using ho)
      simp only [Bool.and_eq_true] at hchk
      obtain ⟨hpair, hlook⟩ := hchk
      have hdst : ∀ d, o.dst = some d → d < a.tmps.size := by
        intro d hd
        have := list_all_range hdist hin
        have h2 : dstAt l.toArray i = some d := by simp only [dstAt, ho]; exact hd
        rw [h2] at this
        simp only [Bool.and_eq_true, decide_eq_true_eq] at this
        rw [inv.tsize]
        exact this.1
      have hjs : ∀ x : Nat × Tmp, x ∈ js → dstAt l.toArray x.1 = some x.2 ∧ D.getD x.1 false = true ∧ x.1 < i := by
        intro x hx
        have := List.all_eq_true.1 hpair x hx
        simp only [Bool.and_eq_true, beq_iff_eq] at this
        obtain ⟨oj, hoj, e, he, hb, hon⟩ := Region.waitsFor_spec this.2
        obtain rfl : o = oj := Option.some.inj (ho.symm.trans hoj)
        have ht := list_all_range htopo hin
        simp only [ho, Option.map_some, Option.getD_some] at ht
        have ht := Array.all_eq_true_iff_forall_mem.1 ht e he
        simp only [hb, Bool.not_true, Bool.false_or, decide_eq_true_eq] at ht
        exact ⟨this.1, by rw [← hon]; exact hall e he hb, by rw [← hon]; exact ht⟩
      have hget : ∀ x : Nat × Tmp, x ∈ js → ((Vs.take i).getD x.1 Qv.any).p vs (a.eval (.tmp x.2)) w := fun x hx => by
        obtain ⟨h1, h2, h3⟩ := hjs x hx
        have hxl : x.1 < Vs.length := by omega
        have h4 : Vs[x.1]? = some Vs[x.1] := List.getElem?_eq_getElem hxl
        have h5 := inv.known x.1 _ h2 h4
        rw [h1] at h5
        have : (Vs.take i).getD x.1 Qv.any = Vs[x.1] := by
          rw [List.getD_eq_getElem?_getD, List.getElem?_take, if_pos h3, h4]
          rfl
        rw [this]
        exact h5
      obtain ⟨hk0, hk1, hk2⟩ := inv.cls
      have hlk : ∀ t ∈ o.looksAt l.toArray, (onto a (js.map fun x => some x.2) a0).tmps[t]? = a.tmps[t]? := fun t ht => by
        refine onto_at a t _ _ inv.tsize.symm ?_
        have h1 : (o.looksAt l.toArray).all (fun t => js.any (·.2 == t) || keptB l.toArray n i t) = true := by
          simpa only [lookB, ho, Option.map_some, Option.getD_some] using hlook
        have h2 := List.all_eq_true.1 h1 t ht
        simp only [Bool.or_eq_true] at h2
        rcases h2 with h2 | h2
        · left
          obtain ⟨x, hx, hxt⟩ := List.any_eq_true.1 h2
          exact List.mem_map.2 ⟨x, hx, by rw [beq_iff_eq.1 hxt]⟩
        · right
          refine (inv.rest t fun j hj hD e => ?_).symm
          have h3 := list_all_range h2 hj
          simp only [Bool.or_eq_true, bne_iff_ne, ne_eq, beq_iff_eq] at h3
          rcases h3 with (h3 | h3) | h3
          · exact h3 e
          · obtain ⟨oj, hoj, e', he', hb', hon⟩ := Region.waitsFor_spec h3
            have := inv.head.closed j oj hoj hD e' he' hb'
            rw [hon, getD_both hu] at this
            cases this
          · subst h3
            rw [getD_both hu] at hD
            cases hD
      obtain ⟨T, hA, hS⟩ : ∃ T : Value → World → Prop, Ask' P l.toArray vs (Vs.take i) (ToldL T o.dst a0.defers) o w js a0 ∧ (∀ v w', T v w' → ∃ vs2, V.p vs2 v w' ∧ (∀ (W : Qv L) (j : Nat), D.getD j false = true → Vs[j]? = some W → ∀ {u : Value}, W.p vs u w → W.p vs2 u w') ∧ Cls L late vs2 (D.setIfInBounds i true) w') := by
        rcases hask with ⟨hnl', hA⟩ | ⟨q, rq, hq, hrq, hVq, hA⟩
        · have hne : ∀ q i', late[q]? = some i' → i ≠ i' := fun q i' hq e => by
            subst e
            have := List.contains_iff_mem.2 (List.mem_of_getElem? hq)
            rw [hnl'] at this
            cases this
          exact ⟨_, hA vs w hk1, fun v w' hg => ⟨vs, hg.1, fun W j _ _ _ hp => W.st hp hg.2, hk0, L.g hk1 hg.2, fun q i' hq => by rw [getD_set_ne false (hne q i' hq)]; exact hk2 q i' hq⟩⟩
        · have hDi : D.getD i false = false := getD_both hu
          have h1 : q ∉ vs.map (·.1) := fun h => by have := (hk2 q i hq).2 h; rw [hDi] at this; cases this
          have h2 : ∀ x ∈ rq, x ∈ vs.map (·.1) := fun x hx => by
            have hw := List.all_eq_true.1 hrq x hx
            cases hlx : late[x]? with
            | none => rw [hlx] at hw; cases hw
            | some k =>
              rw [hlx] at hw
              obtain ⟨oj, hoj, e, he, hb, hon⟩ := Region.waitsFor_spec hw
              obtain rfl : o = oj := Option.some.inj (ho.symm.trans hoj)
              have h3 := hall e he hb
              rw [hon] at h3
              exact (hk2 x k hlx).1 h3
          refine ⟨_, hA vs w h1 h2 hk1, fun v w' hg => ⟨vs ++ [(q, v)], (by rw [hVq]; show (q, v) ∈ vs ++ [(q, v)]; simp), fun W j hj hW _ hp => W.sr hk1 hg.1 hp, ⟨?_, fun x hx => ?_⟩, hg.2, fun q' i' hq' => ?_⟩⟩
          · rw [List.map_append, List.nodup_append]
            exact ⟨hk0.1, by simp, fun a ha b hb e => by
              have hb : b = q := by simpa using hb
              exact h1 (by rw [← hb, ← e]; exact ha)⟩
          · rw [List.map_append, List.mem_append] at hx
            rcases hx with hx | hx
            · exact hk0.2 x hx
            · have hx : x = q := by simpa using hx
              rw [hx]
              exact (List.getElem?_eq_some_iff.1 hq).1
          · rw [List.map_append, List.mem_append]
            by_cases e : i = i'
            · subst e
              have hqq : q' = q := (List.getElem?_inj (List.getElem?_eq_some_iff.1 hq').1 hnd).1 (hq'.trans hq.symm)
              have hlt : i < D.size := by
                rw [inv.head.size]
                exact (Array.getElem?_eq_some_iff.1 ho).1
              simp [hlt, hqq]
            · rw [getD_set_ne false e, hk2 q' i' hq']
              have : q' ≠ q := fun e' => e (by rw [e', hq] at hq'; exact Option.some.inj hq')
              simp [this]
      have hW := Ask'.all (b := a) hget hA
      have hop := toldL_op (Q := Q) (ops := l.toArray) (a0 := a0) (a := a) (Region.noSelect_spec hsel i o · · ho) hdst ((onto_size _ _ _).trans inv.tsize.symm) hlk ho (onto_defers _ _ _) hW
      refine wpOp_mono (fun a' w' hk => ?_) hop
      obtain ⟨v, ha, hT⟩ := hk
      obtain ⟨vs2, hv, hs, hcl⟩ := hS _ w' hT
      exact ih vs2 _ a' w' (linv_step inv hdist hi hin ho hV (by omega) ha hv hs hcl) (by have := (cnt_set (D := D) (i := i) n).2 hin hu; omega)
  have h0 := key n [] (Array.replicate l.toArray.size false) a0 w0 ⟨⟨by simp, (fun j oj _ hD => by rw [getD_replicate_false] at hD; cases hD), fun t _ ht => by simp only [List.size_toArray] at ht ⊢; simp [ht]⟩, ⟨⟨by simp, by simp⟩, hC0, fun q i hq => by rw [getD_replicate_false]; simp⟩, rfl, rfl, fun _ _ => rfl, (fun j V hD => by rw [getD_replicate_false] at hD; cases hD)⟩ (cnt_false _ n)
  rwa [show n + (l.toArray.size - n) = l.toArray.size by omega] at h0
/-- One operation that is carried out .. -/
theorem askl_do {T : Value → World → Prop} {ds : List Deferred} {o : Oper} {a : Act} {w : World} (hw : Region.wanted o (yielded ops a.tmps) = true)
    (h : ∀ K' : Act → World → Prop, (∀ a' w', a'.defers = ds → T (match o.dst with | some d => a'.eval (.tmp d) | none => undef) w' → K' a' w') → o.wp P a w K' (ToldL T o.dst ds)) : wpList P ops (ToldL T o.dst ds) [o] a w := by
  unfold wpList
  rw [if_pos hw]
  exact .inl (h _ fun a' w' h1 h2 => ⟨rfl, h1, h2⟩)
/-- .. or is not. -/
theorem askl_skip {T : Value → World → Prop} {ds : List Deferred} {o : Oper} {a : Act} {w : World} (hw : Region.wanted o (yielded ops a.tmps) = false) (h1 : (a.put o.dst undef).defers = ds) (h2 : T (match o.dst with | some d => (a.put o.dst undef).eval (.tmp d) | none => undef) w) : wpList P ops (ToldL T o.dst ds) [o] a w := by
  unfold wpList
  rw [if_neg (by rw [hw]; simp)]
  exact ⟨rfl, h1, h2⟩
/-- What is behind them. -/
def FinL (P : Program) (ops : Array Oper) (Q : Exit → Act → World → Prop) (vs : List (Nat × Value)) (w : World) : List (Qv L) → List Oper → Act → Prop
  | V :: Vs, o :: os, a => ∀ x, V.p vs x w → FinL P ops Q vs w Vs os (a.put o.dst x)
  | _, os, a => wpList P ops Q os a w
theorem FinL.cut {vs : List (Nat × Value)} {w : World} : ∀ {Vs : List (Qv L)} {os : List Oper} {a : Act}, Vs.length ≤ os.length → FinL P ops Q vs w Vs os a → FinL' (fun a w => wpList P ops Q (os.drop Vs.length) a w) vs w Vs (os.take Vs.length) a
  | [], os, a, _, h => by
    have h : wpList P ops Q os a w := by cases os <;> exact h
    exact h
  | V :: Vs, [], a, hl, _ => by simp at hl
  | V :: Vs, o :: os, a, hl, h => fun x hx => FinL.cut (Vs := Vs) (os := os) (by simpa using hl) (h x hx)
theorem LateR.weak {F G : List (Qv L) → Prop} : ∀ {k : Nat} {Rs : List (Qv L)} {os : List Oper}, LateR L late P ops n a0 F k Rs os → (∀ Ws, Ws.length = Rs.length + k → F Ws → G Ws) → LateR L late P ops n a0 G k Rs os
  | 0, Rs, _, h, hg => hg _ (by simp) h
  | _ + 1, _, [], h, _ => h.elim
  | k + 1, Rs, o :: os, ⟨V, js, hb, hA, hM⟩, hg => ⟨V, js, hb, hA, LateR.weak hM fun Ws hW => hg Ws (by simp at hW ⊢; omega)⟩
theorem wpAny_lateR {l : List Oper} (n : Nat) (hB : monoB l.toArray n a0.tmps.size = true) (hBl : lateB n late = true) (hC0 : L.C [] w0)
    (h : LateR L late P l.toArray n a0 (fun Vs => ∀ vs w, (vs.map (·.1)).Nodup ∧ (∀ q, q < late.length ↔ q ∈ vs.map (·.1)) → L.C vs w → FinL P l.toArray Q vs w Vs l a0) n [] l) : wpAny P .any l.toArray Q l.toArray.size (Array.replicate l.toArray.size false) a0 w0 := by
  refine wpAny_late n hB hBl hC0 (LateR.weak h fun Ws hW hF vs w hvl hw => ?_)
  have hn := (LateR.out h).1
  have hl : Ws.length = n := by simpa using hW
  have := FinL.cut (by rw [hl]; exact hn) (hF vs w hvl hw)
  rwa [hl] at this
theorem wp_region_late {l : List Oper} {id : Nat} (L : Lt) (late : List Nat) (n : Nat) (hm : P.follows .mixedOrders = true) (hB : monoB l.toArray n a0.tmps.size = true) (hBl : lateB n late = true) (hC0 : L.C [] w0.drew)
    (h : LateR L late P l.toArray n a0 (fun Vs => ∀ vs w, (vs.map (·.1)).Nodup ∧ (∀ q, q < late.length ↔ q ∈ vs.map (·.1)) → L.C vs w → FinL P l.toArray Q vs w Vs l a0) n [] l) : (Code.region id l.toArray true).wp P Q a0 w0 :=
  wp_region_any hm (wpAny_lateR n hB hBl hC0 h)
end
end Go.Proofs.YtnjkelojkoeihaaGreatDoor.FR

namespace Go.Proofs.YtnjkelojkoeihaaGreatDoor
open Go Go.RowKit

theorem fr_one {vs : List (Nat × Value)} (h : (vs.map (·.1)).Nodup) {q : Nat} {x y : Value} : (q, x) ∈ vs → (q, y) ∈ vs → x = y := by
  induction vs with
  | nil => intro hx; cases hx
  | cons a vs ih =>
    rw [List.map_cons, List.nodup_cons] at h
    intro hx hy
    rcases List.mem_cons.1 hx with e1 | h1 <;> rcases List.mem_cons.1 hy with e2 | h2
    · exact (Prod.ext_iff.1 (e1.trans e2.symm)).2
    · exact absurd (List.mem_map.2 ⟨_, h2, by rw [← e1]⟩) h.1
    · exact absurd (List.mem_map.2 ⟨_, h1, by rw [← e2]⟩) h.1
    · exact ih h.2 h1 h2
theorem fr_mem {vs : List (Nat × Value)} {q : Nat} (h : q ∈ vs.map (·.1)) : ∃ x, (q, x) ∈ vs := by
  obtain ⟨⟨a, x⟩, h1, rfl⟩ := List.mem_map.1 h
  exact ⟨x, h1⟩
theorem fr_in {vs : List (Nat × Value)} {q : Nat} {x : Value} (h : (q, x) ∈ vs) : q ∈ vs.map (·.1) := List.mem_map.2 ⟨_, h, rfl⟩
theorem fr_snoc {vs : List (Nat × Value)} {q r : Nat} {u : Value} : r ∈ (vs ++ [(q, u)]).map (·.1) ↔ r ∈ vs.map (·.1) ∨ r = q := by simp
theorem fr_nodup {vs : List (Nat × Value)} {q : Nat} {u : Value} (h : (vs.map (·.1)).Nodup) (hq : q ∉ vs.map (·.1)) : ((vs ++ [(q, u)]).map (·.1)).Nodup := by
  rw [List.map_append, List.nodup_append]
  exact ⟨h, by simp, fun a ha b hb e => by
    have hb : b = q := by simpa using hb
    exact hq (by rw [← hb, ← e]; exact ha)⟩
/-- What is known of the call: ahead of it; behind it, of what it told and the cells to be stored. -/
structure BoxOk (D : World) (row : Option Nat) (ty : TypeId) (zero : Array Value) (Pre : World → Prop) (Told : Value → Array Value → World → Prop) : Prop where
  row : ∀ r, row = some r → r < D.heap.size
  pre : ∀ {W W'}, Pre W → W.grownBy W' none → Pre W'
  told : ∀ {x cs W W'}, Told x cs W → W.grownBy W' none → Told x cs W'
  store : ∀ {x cs W W' g}, Told x cs W → Bk W g ty zero → D.heap.size ≤ g → W.grownBy W' (some g) → Told x cs W'
structure BoxC (D : World) (row : Option Nat) (ty : TypeId) (zero : Array Value) (Pre : World → Prop) (Told : Value → Array Value → World → Prop) (vs : List (Nat × Value)) (W : World) : Prop where
  g : D.grownBy W row
  pre : 0 ∉ vs.map (·.1) → Pre W
  told : ∀ x, (0, x) ∈ vs → ∃ cs, Told x cs W
  box : ∀ x, (1, x) ∈ vs → ∃ g, x = .pointer (some ⟨g, 0, none⟩) ∧ D.heap.size ≤ g ∧ (2 ∉ vs.map (·.1) → Bk W g ty zero) ∧ (2 ∈ vs.map (·.1) → ∃ y cs, (0, y) ∈ vs ∧ Told y cs W ∧ Bk W g ty cs)
  two : 2 ∈ vs.map (·.1) → 1 ∈ vs.map (·.1)
  nd : (vs.map (·.1)).Nodup
section
variable {D : World} {row : Option Nat} {ty : TypeId} {zero : Array Value} {Pre : World → Prop} {Told : Value → Array Value → World → Prop} {vs : List (Nat × Value)} {W W' : World}
theorem BoxC.start (h : Pre D) : BoxC D row ty zero Pre Told [] D := ⟨World.grownBy.refl _ _, fun _ => h, by simp, by simp, by simp, by simp⟩
theorem BoxC.keep (ok : BoxOk D row ty zero Pre Told) (h : BoxC D row ty zero Pre Told vs W) (hg : W.grownBy W' none) : BoxC D row ty zero Pre Told vs W' where
  g := h.g.trans (hg.but _)
  pre := fun hn => ok.pre (h.pre hn) hg
  told := fun x hx => by
    obtain ⟨cs, hc⟩ := h.told x hx
    exact ⟨cs, ok.told hc hg⟩
  box := fun x hx => by
    obtain ⟨g, e, hl, h1, h2⟩ := h.box x hx
    refine ⟨g, e, hl, fun hn => (h1 hn).grown hg (by simp), fun hy => ?_⟩
    obtain ⟨y, cs, a, b, c⟩ := h2 hy
    exact ⟨y, cs, a, ok.told b hg, c.grown hg (by simp)⟩
  two := h.two
  nd := h.nd
theorem BoxC.call (ok : BoxOk D row ty zero Pre Told) (h : BoxC D row ty zero Pre Told vs W) (hn : 0 ∉ vs.map (·.1)) {x : Value} {cs : Array Value} (ht : Told x cs W') (hg : W.grownBy W' row) : BoxC D row ty zero Pre Told (vs ++ [(0, x)]) W' where
  g := h.g.trans hg
  pre := fun hm => absurd (fr_snoc.2 (.inr rfl)) hm
  told := fun y hy => by
    rcases List.mem_append.1 hy with hy | hy
    · exact absurd (fr_in hy) hn
    · simp only [List.mem_singleton, Prod.mk.injEq, true_and] at hy
      subst hy
      exact ⟨cs, ht⟩
  box := fun y hy => by
    rcases List.mem_append.1 hy with hy | hy
    · obtain ⟨g, e, hl, h1, h2⟩ := h.box y hy
      refine ⟨g, e, hl, fun hm => (h1 fun hk => hm (fr_snoc.2 (.inl hk))).grown hg (fun e => by have := ok.row g e.symm; omega), fun hm => ?_⟩
      rcases fr_snoc.1 hm with hm | hm
      · obtain ⟨z, _, hz, _⟩ := h2 hm
        exact absurd (fr_in hz) hn
      · cases hm
    · simp at hy
  two := fun hm => by
    rcases fr_snoc.1 hm with hm | hm
    · exact fr_snoc.2 (.inl (h.two hm))
    · cases hm
  nd := fr_nodup h.nd hn
theorem BoxC.alloc (ok : BoxOk D row ty zero Pre Told) (h : BoxC D row ty zero Pre Told vs W) (hn : 1 ∉ vs.map (·.1)) : BoxC D row ty zero Pre Told (vs ++ [(1, .pointer (some ⟨W.heap.size, 0, none⟩))]) (W.alloc (.cells zero ty)) where
  g := h.g.trans ((World.grownBy_alloc _ _ none).but _)
  pre := fun hm => ok.pre (h.pre fun hk => hm (fr_snoc.2 (.inl hk))) (World.grownBy_alloc _ _ none)
  told := fun y hy => by
    rcases List.mem_append.1 hy with hy | hy
    · obtain ⟨cs, hc⟩ := h.told y hy
      exact ⟨cs, ok.told hc (World.grownBy_alloc _ _ none)⟩
    · simp at hy
  box := fun y hy => by
    have h2 : 2 ∉ (vs ++ [(1, Value.pointer (some ⟨W.heap.size, 0, none⟩))] : List (Nat × Value)).map (·.1) := fun hm => by
      rcases fr_snoc.1 hm with hm | hm
      · exact hn (h.two hm)
      · cases hm
    rcases List.mem_append.1 hy with hy | hy
    · exact absurd (fr_in hy) hn
    · simp only [List.mem_singleton, Prod.mk.injEq, true_and] at hy
      exact ⟨_, hy, h.g.size, fun _ => Bk.new _ _ _, fun hm => absurd hm h2⟩
  two := fun hm => by
    rcases fr_snoc.1 hm with hm | hm
    · exact fr_snoc.2 (.inl (h.two hm))
    · cases hm
  nd := fr_nodup h.nd hn
theorem BoxC.stored (ok : BoxOk D row ty zero Pre Told) (h : BoxC D row ty zero Pre Told vs W) (hn : 2 ∉ vs.map (·.1)) {x u : Value} {cs : Array Value} {g : Nat} (hx : (0, x) ∈ vs) (ht : Told x cs W) (hp : (1, .pointer (some ⟨g, 0, none⟩)) ∈ vs) (hb : Bk W' g ty cs) (hg : W.grownBy W' (some g)) : BoxC D row ty zero Pre Told (vs ++ [(2, u)]) W' := by
  obtain ⟨g', e, hl, h1, _⟩ := h.box _ hp
  injection e with e
  injection e with e
  injection e with e _ _
  subst e
  have hz := h1 hn
  refine ⟨h.g.andThen hg (fun j e => .inl (by injection e with e; omega)), fun hm => absurd (fr_snoc.2 (.inl (fr_in hx))) hm, fun y hy => ?_, fun y hy => ?_, fun hm => fr_snoc.2 (.inl (fr_in hp)), fr_nodup h.nd hn⟩
  · rcases List.mem_append.1 hy with hy | hy
    · obtain ⟨cs', hc⟩ := h.told y hy
      exact ⟨cs', ok.store hc hz hl hg⟩
    · simp at hy
  · rcases List.mem_append.1 hy with hy | hy
    · have := fr_one h.nd hy hp
      exact ⟨g, this, hl, fun hm => absurd (fr_snoc.2 (.inr rfl)) hm, fun _ => ⟨x, cs, List.mem_append_left _ hx, ok.store ht hz hl hg, hb⟩⟩
    · simp at hy
theorem BoxC.fin (h : BoxC D row ty zero Pre Told vs W) (hv : ∀ q, q < 3 ↔ q ∈ vs.map (·.1)) {y : Value} (hy : (1, y) ∈ vs) : ∃ g x cs, y = .pointer (some ⟨g, 0, none⟩) ∧ D.heap.size ≤ g ∧ (0, x) ∈ vs ∧ Told x cs W ∧ Bk W g ty cs ∧ D.grownBy W row := by
  obtain ⟨g, e, hl, _, h2⟩ := h.box y hy
  obtain ⟨x, cs, a, b, c⟩ := h2 ((hv 2).1 (by omega))
  exact ⟨g, x, cs, e, hl, a, b, c, h.g⟩
/-- The worlds of such a region. -/
def boxLt (ok : BoxOk D row ty zero Pre Told) : FR.Lt where
  C := BoxC D row ty zero Pre Told
  R _ _ _ _ := True
  G W W' := W.grownBy W' none
  g := fun h hg => h.keep ok hg
/-- What the call told; a part of it. -/
def boxX {ok : BoxOk D row ty zero Pre Told} : FR.Qv (boxLt ok) := FR.Qv.slot 0
def boxE {ok : BoxOk D row ty zero Pre Told} (f : Value → Value → Prop) : FR.Qv (boxLt ok) where
  p vs v _ := ∃ x, (0, x) ∈ vs ∧ f v x
  st := fun h _ => h
  sr := fun _ _ ⟨x, h, hf⟩ => ⟨x, List.mem_append_left _ h, hf⟩
end
/-- A drawn region with one call that may write a row. -/
structure CallOk (D : World) (row : Option Nat) (Pre : World → Prop) (Told : Value → World → Prop) : Prop where
  row : ∀ r, row = some r → r < D.heap.size
  pre : ∀ {W W'}, Pre W → W.grownBy W' none → Pre W'
  told : ∀ {x W W'}, Told x W → W.grownBy W' none → Told x W'
structure CallC (D : World) (row : Option Nat) (Pre : World → Prop) (Told : Value → World → Prop) (vs : List (Nat × Value)) (W : World) : Prop where
  g : D.grownBy W row
  pre : 0 ∉ vs.map (·.1) → Pre W
  told : ∀ x, (0, x) ∈ vs → Told x W
section
variable {D : World} {row : Option Nat} {Pre : World → Prop} {Told : Value → World → Prop} {vs : List (Nat × Value)} {W W' : World}
theorem CallC.start (h : Pre D) : CallC D row Pre Told [] D := ⟨World.grownBy.refl _ _, fun _ => h, by simp⟩
theorem CallC.call (h : CallC D row Pre Told vs W) (hn : 0 ∉ vs.map (·.1)) {x : Value} (ht : Told x W') (hg : W.grownBy W' row) : CallC D row Pre Told (vs ++ [(0, x)]) W' := ⟨h.g.trans hg, fun hm => absurd (fr_snoc.2 (.inr rfl)) hm, fun y hy => by
  rcases List.mem_append.1 hy with hy | hy
  · exact absurd (fr_in hy) hn
  · simp only [List.mem_singleton, Prod.mk.injEq, true_and] at hy
    exact hy ▸ ht⟩
def callLt (ok : CallOk D row Pre Told) : FR.Lt where
  C := CallC D row Pre Told
  R _ _ W W' := W.grownBy W' row
  G W W' := W.grownBy W' none
  g := fun h hg => ⟨h.g.trans (hg.but _), fun hn => ok.pre (h.pre hn) hg, fun x hx => ok.told (h.told x hx) hg⟩
def callX {ok : CallOk D row Pre Told} : FR.Qv (callLt ok) := FR.Qv.slot 0
def callE {ok : CallOk D row Pre Told} (f : Value → Value → Prop) : FR.Qv (callLt ok) where
  p vs v _ := ∃ x, (0, x) ∈ vs ∧ f v x
  st := fun h _ => h
  sr := fun _ _ ⟨x, h, hf⟩ => ⟨x, List.mem_append_left _ h, hf⟩
/-- A slice made in the region. -/
def callS {ok : CallOk D row Pre Told} {α : Type} (E : Enc α) (xs : List α) : FR.Qv (callLt ok) where
  p _ v W := Sl E (fun k => D.heap.size ≤ k) W v xs
  st := fun h hg => h.kept hg
  sr := fun _ hR h => h.keep hR (fun g hg e => by have := ok.row g e.symm; omega)
end
end Go.Proofs.YtnjkelojkoeihaaGreatDoor
