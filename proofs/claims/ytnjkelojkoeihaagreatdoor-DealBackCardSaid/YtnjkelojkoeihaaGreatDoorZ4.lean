/- What deal.Make makes: its lists, and two lists side by side in a struct that is written. pedersen.RowComs, Fits, slices.Equal of numbers, walked. math/bits.TrailingZeros64 and mod.Prime, walked. What comes in: data of whatever depth, as the walks want it. group.May, walked: its asks one by one. Powers and commitments modulo P: plain arithmetic. What rows and columns of a matrix tell at places: the same, whichever comes first. No group is wanted. pedersen.Square and Bonded, walked (printed by mk_square.py). The commitments to rows and columns: plain arithmetic. The document's comparisons, of what is the same, walked. The document's comparison of models, of what is the same, walked. Weights, sums and commitments reckoned: what Lean can decide. group.May, walked: the asks as values, and the whole. The plain law of weights: places apart, rows turned about, one place alone. No program in sight but the data's words. The plain law of weights: rows turned about, one place alone. What members' pairs, and dealers' commitments, come to: in whatever row, and of one alone: the plain law of ShareRows. The plain law of ShareFits: what shares come to fits what their commitments come to. The plain law of ShareFits, whole. The plain law of weights at 0: two or three points tell a polynomial's first number. consistorylaw20.some, walked; three lists side by side. The plain law of ShareWhole: the shares of T + 1 members come to the secrets, and these are the model's. The plain law of DealModel: what each member is dealt fits the commitments. deal.At, walked (printed by mk_dealf.py). -/
import Derived.Test.YtnjkelojkoeihaaGreatDoorZ3
import Derived.Deep.RegionHeld3
import Derived.Deep.DeepCutAuto
import Derived.Lib.TrailingZeros
import Derived.Deep.LoopGhost
import Derived.WalkMore
import Derived.ProofKit
import Derived.OpenShut
import Derived.ChangeOld
import Derived.Deep.Slices
import Derived.Deep.QuietTactic
import Derived.BigQuiet
import Derived.IntWalk
namespace Go.Proofs.YtnjkelojkoeihaaGreatDoor
open Go Go.RowKit Go.Shelf

theorem info_pairs2 : (Tryz.prog.info? 39).map (fun i => (i.zero, i.size, i.bytes)) = some (some (.slice none 0 0), 1, 24) := by kernel_rfl
theorem el_pairs2 : ElemOk Tryz.prog 30 39 1 24 := ElemOk.mk' (by decide) Tryz.underlying30 info_pairs2 rfl
/-- A polynomial of two that is drawn. -/
def twoL (x q : Int) (dr : Nat → Int) (t k : Nat) : List (List Int) := chk t (behI x q dr (t * t - 1) k) t
def makeF (l : List (Int × Int)) (q : Int) (dr : Nat → Int) (t k s : Nat) : List (List Int) := twoL (l[s]?.getD (0, 0)).1 q dr t (k + s * (2 * (t * t - 1)))
def makeB (l : List (Int × Int)) (q : Int) (dr : Nat → Int) (t k s : Nat) : List (List Int) := twoL (l[s]?.getD (0, 0)).2 q dr t (k + s * (2 * (t * t - 1)) + (t * t - 1))
def makeFs (l : List (Int × Int)) (q : Int) (dr : Nat → Int) (t k n : Nat) : List (List (List Int)) := (List.range n).map (makeF l q dr t k)
def makeBs (l : List (Int × Int)) (q : Int) (dr : Nat → Int) (t k n : Nat) : List (List (List Int)) := (List.range n).map (makeB l q dr t k)
theorem hsnoc {α : Type} (f : Nat → α) (n : Nat) : (List.range (n + 1)).map f = (List.range n).map f ++ [f n] := by simp [List.range_succ]
/-- What member j gets of each secret. -/
def rowP (q : Int) (F B : List (List (List Int))) (t : Nat) (j : Int) (s : Nat) : List (Int × Int) := zipP (rowI q (F[s]?.getD []) j) (rowI q (B[s]?.getD []) j) t
def colP (q : Int) (F B : List (List (List Int))) (t : Nat) (j : Int) (s : Nat) : List (Int × Int) := zipP (colV q (F[s]?.getD []) j) (colV q (B[s]?.getD []) j) t
def rowsP (q : Int) (F B : List (List (List Int))) (t : Nat) (j : Int) : List (List (Int × Int)) := (List.range F.length).map (rowP q F B t j)
def colsP (q : Int) (F B : List (List (List Int))) (t : Nat) (j : Int) : List (List (Int × Int)) := (List.range F.length).map (colP q F B t j)
/-- A square. -/
def SqL (t : Nat) (M : List (List Int)) : Prop := M.length = t ∧ ∀ c ∈ M, c.length = t
theorem twoL_sq (x q : Int) (dr : Nat → Int) (t k : Nat) (ht : 1 ≤ t) : SqL t (twoL x q dr t k) := by
  refine ⟨chk_length _ _ _, fun c hc => ?_⟩
  obtain ⟨i, hi, rfl⟩ := List.mem_map.1 hc
  have hi2 : i < t := List.mem_range.1 hi
  have h1 : (i + 1) * t ≤ t * t := Nat.mul_le_mul_right _ hi2
  have h2 : 1 * 1 ≤ t * t := Nat.mul_le_mul ht ht
  rw [Nat.add_mul, Nat.one_mul] at h1
  rw [List.length_take, List.length_drop, behI_len]
  omega
theorem makeFs_sq (l : List (Int × Int)) (q : Int) (dr : Nat → Int) (t k n : Nat) (ht : 1 ≤ t) : ∀ M ∈ makeFs l q dr t k n, SqL t M := fun M hM => by
  obtain ⟨i, _, rfl⟩ := List.mem_map.1 hM
  exact twoL_sq _ _ _ _ _ ht
theorem makeBs_sq (l : List (Int × Int)) (q : Int) (dr : Nat → Int) (t k n : Nat) (ht : 1 ≤ t) : ∀ M ∈ makeBs l q dr t k n, SqL t M := fun M hM => by
  obtain ⟨i, _, rfl⟩ := List.mem_map.1 hM
  exact twoL_sq _ _ _ _ _ ht
theorem foldl_same (t : Nat) : ∀ (M : List (List Int)) (n : Nat), (∀ c ∈ M, c.length = t) → M.foldl (fun n c => max n c.length) n = if M = [] then n else max n t
  | [], n, _ => rfl
  | c :: M, n, h => by
    rw [List.foldl_cons, foldl_same t M _ (fun c hc => h c (List.mem_cons_of_mem _ hc)), h c List.mem_cons_self]
    split <;> simp
theorem wide_sqL {t : Nat} {M : List (List Int)} (h : SqL t M) : wideI M = t := by
  unfold wideI
  rw [foldl_same t M 0 h.2]
  obtain ⟨h1, _⟩ := h
  split
  · rename_i e
    rw [e] at h1
    exact h1
  · omega
theorem rowI_sqL {t : Nat} {M : List (List Int)} (h : SqL t M) (q x : Int) : (rowI q M x).length = t := by simp [rowI, wide_sqL h]
theorem colV_sqL {t : Nat} {M : List (List Int)} (h : SqL t M) (q x : Int) : (colV q M x).length = t := by simp [colV, h.1]
/-- The worlds while two lists of a struct are appended to, one behind the other. -/
def twLt {α : Type} (E : Enc α) (ty tE : TypeId) (w4 : World) (Bd lo hi : Nat) (cs : Array Value) (vW vB vy vz : Value) (xs ys : List α) (y z : α) : Lt where
  C vs w := w4.grownBy w (some Bd) ∧ Bk w Bd ty cs ∧ hi ≤ w.heap.size ∧ E.rep (fun g => lo ≤ g ∧ g < hi) w [vy] y ∧ E.rep (fun g => lo ≤ g ∧ g < hi) w [vz] z ∧ match vs with
    | [] => Side E E w4.heap.size tE tE (fun g => w4.heap.size ≤ g) w vW vB xs ys
    | [u] => Side E E w4.heap.size tE tE (fun g => w4.heap.size ≤ g) w u vB (xs ++ [y]) ys ∧ ∀ g, u.ownBlock = some g → g < lo ∨ hi ≤ g
    | [u, u2] => Side E E w4.heap.size tE tE (fun g => w4.heap.size ≤ g) w u u2 (xs ++ [y]) (ys ++ [z])
    | _ => False
  R q w w' := w.grownBy w' (if q = 0 then vW.ownBlock else vB.ownBlock)
  g := fun {vs w w'} h hg => by
    obtain ⟨h1, h2, h3, h4, h5, h6⟩ := h
    refine ⟨h1.trans (hg.but _), h2.grown hg (by simp), Nat.le_trans h3 hg.size, E.keep h4 hg (by simp), E.keep h5 hg (by simp), ?_⟩
    match vs, h6 with
    | [], h6 => exact h6.kept hg
    | [u], h6 => exact ⟨h6.1.kept hg, h6.2⟩
    | [u, u2], h6 => exact h6.kept hg
def twQ {α : Type} {E : Enc α} {ty tE : TypeId} {w4 : World} {Bd lo hi : Nat} {cs : Array Value} {vW vB vy vz : Value} {xs ys : List α} {y z : α} (hW : ∀ g, vW.ownBlock = some g → g < lo) (hB : ∀ g, vB.ownBlock = some g → g < lo) (t : TypeId) (u : Value) : Qv (twLt E ty tE w4 Bd lo hi cs vW vB vy vz xs ys y z) where
  p _ v w := BlkQ lo t u v w
  fr := 0
  st := fun ⟨b, e, hb, hk⟩ hg => ⟨b, e, hb, hk.grown hg (by simp)⟩
  sr := fun {vs _ v w w'} _ _ hR ⟨b, e, hb, hk⟩ => by
    refine ⟨b, e, hb, hk.grown hR fun e => ?_⟩
    split at e
    · have := hW b e.symm; omega
    · have := hB b e.symm; omega
section
variable {α : Type} {E : Enc α} {ty tE : TypeId} {w4 w' w3 : World} {Bd lo hi : Nat} {cs : Array Value} {vW vB vy vz u v3 : Value} {xs ys : List α} {y z : α}
theorem twLt_one (hC : (twLt E ty tE w4 Bd lo hi cs vW vB vy vz xs ys y z).C [] w') (ha : Acc E w4.heap.size tE (fun g => w4.heap.size ≤ g ∧ some g ≠ vB.ownBlock) w3 v3 (xs ++ [y])) (hgr : w'.grownBy w3 vW.ownBlock) (hm : Moved w' vW v3) (hW : ∀ g, vW.ownBlock = some g → g < lo) (hd : Bd < w4.heap.size) : (twLt E ty tE w4 Bd lo hi cs vW vB vy vz xs ys y z).C [v3] w3 := by
  obtain ⟨h1, h2, h3, h4, h5, h6⟩ := hC
  have hS : Side E E w4.heap.size tE tE (fun g => w4.heap.size ≤ g) w' vW vB xs ys := h6
  refine ⟨h1.andThen hgr (fun j e => .inl (hS.fst.lt j e).1), h2.grown hgr (fun e => by have := (hS.fst.lt _ e.symm).1; omega), Nat.le_trans h3 hgr.size, E.keep h4 hgr (fun g hg e => by have := hW g e.symm; omega), E.keep h5 hgr (fun g hg e => by have := hW g e.symm; omega), hS.one ha hgr hm, fun g e => ?_⟩
  rcases hm with h | ⟨n, hn, h⟩
  · exact .inl (hW g (h ▸ e))
  · rw [h] at e
    injection e with e
    exact .inr (by omega)
theorem twLt_two (hC : (twLt E ty tE w4 Bd lo hi cs vW vB vy vz xs ys y z).C [u] w') (ha : Acc E w4.heap.size tE (fun g => w4.heap.size ≤ g ∧ some g ≠ u.ownBlock) w3 v3 (ys ++ [z])) (hgr : w'.grownBy w3 vB.ownBlock) (hm : Moved w' vB v3) (hB : ∀ g, vB.ownBlock = some g → g < lo) (hd : Bd < w4.heap.size) : (twLt E ty tE w4 Bd lo hi cs vW vB vy vz xs ys y z).C [u, v3] w3 := by
  obtain ⟨h1, h2, h3, h4, h5, h6⟩ := hC
  have hS : Side E E w4.heap.size tE tE (fun g => w4.heap.size ≤ g) w' u vB (xs ++ [y]) ys := h6.1
  exact ⟨h1.andThen hgr (fun j e => .inl (hS.snd.lt j e).1), h2.grown hgr (fun e => by have := (hS.snd.lt _ e.symm).1; omega), Nat.le_trans h3 hgr.size, E.keep h4 hgr (fun g hg e => by have := hB g e.symm; omega), E.keep h5 hgr (fun g hg e => by have := hB g e.symm; omega), hS.two ha hgr hm⟩
theorem twLt_rep1 (hC : (twLt E ty tE w4 Bd lo hi cs vW vB vy vz xs ys y z).C [] w') (hW : ∀ g, vW.ownBlock = some g → g < lo) (hB : ∀ g, vB.ownBlock = some g → g < lo) (hl : w4.heap.size ≤ lo) : E.rep (fun g => (w4.heap.size ≤ g ∧ some g ≠ vB.ownBlock) ∧ some g ≠ vW.ownBlock) w' [vy] y :=
  E.more hC.2.2.2.1 fun g _ hg => ⟨⟨by omega, fun e => by have := hB g e.symm; omega⟩, fun e => by have := hW g e.symm; omega⟩
theorem twLt_rep2 (hC : (twLt E ty tE w4 Bd lo hi cs vW vB vy vz xs ys y z).C [u] w') (hB : ∀ g, vB.ownBlock = some g → g < lo) (hl : w4.heap.size ≤ lo) : E.rep (fun g => (w4.heap.size ≤ g ∧ some g ≠ u.ownBlock) ∧ some g ≠ vB.ownBlock) w' [vz] z :=
  E.more hC.2.2.2.2.1 fun g _ hg => ⟨⟨by omega, fun e => by have := hC.2.2.2.2.2.2 g e.symm; omega⟩, fun e => by have := hB g e.symm; omega⟩
theorem twLt_end {t' : TypeId} {a : Value} {u2 : Value} (hC : (twLt E t' tE w4 Bd lo hi #[a, vW, vB] vW vB vy vz xs ys y z).C [u, u2] w') (hd : Bd < w4.heap.size) : Bk ((w'.setCell ⟨Bd, 1, none⟩ u).setCell ⟨Bd, 2, none⟩ u2) Bd t' #[a, u, u2] ∧ Side E E w4.heap.size tE tE (fun g => w4.heap.size ≤ g) ((w'.setCell ⟨Bd, 1, none⟩ u).setCell ⟨Bd, 2, none⟩ u2) u u2 (xs ++ [y]) (ys ++ [z]) ∧ w4.grownBy ((w'.setCell ⟨Bd, 1, none⟩ u).setCell ⟨Bd, 2, none⟩ u2) (some Bd) := by
  obtain ⟨h1, h2, _, _, _, h6⟩ := hC
  have hS : Side E E w4.heap.size tE tE (fun g => w4.heap.size ≤ g) w' u u2 (xs ++ [y]) (ys ++ [z]) := h6
  exact ⟨(h2.set 1 u).set 2 u2, (hS.keep (grownSet w' Bd 1 u) (fun g hg e => by injection e with e; omega)).keep (grownSet _ Bd 2 u2) (fun g hg e => by injection e with e; omega), (h1.andThen (grownSet w' Bd 1 u) (fun j e => .inr e)).andThen (grownSet _ Bd 2 u2) (fun j e => .inr e)⟩
end
/-- A slice of one list of pairs, made since N. -/
def blkP (N : Nat) (yr : List (Int × Int)) : Pv := ⟨fun v W => ∃ A n c b, v = .slice (some ⟨b, 0, none⟩) 1 1 ∧ Bk W b 33 #[.slice A n c] ∧ Sl encP (fun g => N ≤ g) W (.slice A n c) yr, fun ⟨A, n, c, b, e, h1, h2⟩ hg => ⟨A, n, c, b, e, h1.grown hg (by simp), h2.kept hg⟩⟩
/-- A list of pairs, made since N. -/
def slP (N : Nat) (yr : List (Int × Int)) : Pv := ⟨fun v W => Sl encP (fun g => N ≤ g) W v yr, fun h hg => h.kept hg⟩
def slU (yr : List Int) : Pv := ⟨fun v W => Sl encU TT W v yr, fun h hg => h.kept hg⟩
theorem results_deal {fn : Func} {W : World} {B8 : Nat} {a b c : Value} (h : fn.results = #[.cell 8 32, .tmp 9]) (tmps : Array Value) (h8 : tmps.getD 8 undef = .pointer (some ⟨B8, 0, none⟩)) (h9 : tmps.getD 9 undef = .int .i64 0) (hb : Bk W B8 32 #[a, b, c]) : (results fn tmps).run Tryz.prog W = .ok (.tuple #[.agg #[a, b, c], .int .i64 0]) W := by
  have r1 := run_loadVar_row (P := Tryz.prog) W B8 32 32 #[a, b, c] (0, 0) _ hb Tryz.underlying32 rfl (by kernel_rfl)
  have h8' : tmps[8]?.getD undef = .pointer (some ⟨B8, 0, none⟩) := by simpa using h8
  have h9' : tmps[9]?.getD undef = .int .i64 0 := by simpa using h9
  simp [results, h, h8', h9', asAddr, r1]
end Go.Proofs.YtnjkelojkoeihaaGreatDoor

namespace Go.Proofs.YtnjkelojkoeihaaGreatDoor
open Go.RowKit

theorem turnedI_length (p : Par) (l : List (List Int)) : (turnedI p l).length = wideI l := by simp [turnedI]
theorem turnedI_cols (p : Par) (l : List (List Int)) : ∀ c ∈ turnedI p l, c.length = l.length := by
  intro c hc
  obtain ⟨j, _, rfl⟩ := List.mem_map.1 hc
  simp [colI]
theorem shareI_length (p : Par) (l : List (List Int)) (x : Int) : (shareI p l x).length = l.length := by simp [shareI]
set_option maxRecDepth 100000 in
set_option maxHeartbeats 1000000 in
theorem rowComs_any (p : Par) (v : Value) (m : List (List (List Int))) (x : Int) (X : Nat → Prop) (w : World) (h : Sl (encS (encS encU)) X w v m) (hx : U64 x) (hb : m.length ≤ 100000) (hb2 : ∀ l ∈ m, l.length ≤ 100000 ∧ ∀ c ∈ l, c.length ≤ 100000) :
    Calls Tryz.prog 55 #[p.v, v, .int .u64 x] w (Gives (encS encU) (fun g => w.heap.size ≤ g) w (rowComsI p m x)) := by
  have H := Lib.hid h
  have HI := Lib.hid hx
  have HB2 := Lib.hid hb2
  obtain ⟨A, c, rfl, hc1, hc2⟩ := h.form
  have HST : Hid (Acc (encS encU) w.heap.size 25 (fun g => w.heap.size ≤ g) (w.alloc (Obj.cells p.cells 24)) (.slice none 0 0) ((m.take 0).map fun l => shareI p (turnedI p l) x) ∧ w.grownBy (w.alloc (Obj.cells p.cells 24)) none ∧ Bk (w.alloc (Obj.cells p.cells 24)) w.heap.size 24 p.cells) := Lib.hid ⟨Acc.nil _ _ _ _ _, World.grownBy_alloc w _ none, Bk.new w _ _⟩
  clear h hx hb2
  go_enter Tryz.func55, Tryz.ntmps55
  go_wp2_with fail
  go_loopg [7, 12] m.length (fun g s7 s12 wx => ∃ j : Nat, j + g = m.length ∧ s12 = .int .i64 j ∧ Hid (Acc (encS encU) w.heap.size 25 (fun g => w.heap.size ≤ g) wx s7 ((m.take j).map fun l => shareI p (turnedI p l) x) ∧ w.grownBy wx none ∧ Bk wx w.heap.size 24 p.cells))
  case atStart => exact ⟨0, by omega, rfl, HST⟩
  case round =>
    obtain ⟨j, hj, rfl, HX⟩ := hrel
    cases gk with
    | zero =>
      obtain rfl : j = m.length := by omega
      have HR : Hid (Sl (encS encU) (fun g => w.heap.size ≤ g) wr u7 (rowComsI p m x) ∧ w.grownBy wr none) := Lib.hid ⟨by have := HX.out.1.sl; rwa [List.take_length] at this, HX.out.2.1⟩
      clear HX HST
      go_wp2
      go_ret
      exact ⟨_, rfl, HR.out.1, HR.out.2⟩
    | succ n =>
      have hjn : (j : Int) < (m.length : Int) := by omega
      have hjN : j < m.length := by omega
      obtain ⟨hacc, hg, hbp⟩ := HX.out
      obtain ⟨g, o, c', u, e, _, _, hcu, hsu⟩ := (H.out.kept hg).atS hjN
      injection e with e1 e2 e3
      subst e1 e3
      obtain ⟨A1, c1, e1, _, _⟩ := hsu.form
      subst e1
      have HSN := Lib.hid (map_take_snoc' (fun l => shareI p (turnedI p l) x) m j hjN)
      obtain ⟨hz1, hz2⟩ := HB2.out m[j] (List.getElem_mem hjN)
      have HT := Lib.hid (fun (w' : World) (hw : wr.grownBy w' none) => turned_any p _ m[j] X w' (hsu.kept hw) hz1 hz2)
      have HWD := Lib.hid (wide_le m[j] 100000 hz2)
      have HF := Lib.hid (fun (v : Value) (Y : Nat → Prop) (w' : World) (hv : Sl (encS encU) Y w' v (turnedI p m[j])) => share_any p v _ x Y w' hv HI.out (by rw [turnedI_length]; exact HWD.out))
      have HSL : Hid ((shareI p (turnedI p m[j]) x).length = wideI m[j]) := Lib.hid (by rw [shareI_length, turnedI_length])
      have HAC : Hid (Acc (encS encU) w.heap.size 25 (fun g => w.heap.size ≤ g) wr.drew u7 ((m.take j).map fun l => shareI p (turnedI p l) x)) := Lib.hid (hacc.kept (grownBy_drewN (World.grownBy.refl wr none) 1))
      have HG : Hid (w.grownBy wr.drew none) := Lib.hid (grownBy_drewN hg 1)
      have HGd : Hid (wr.grownBy wr.drew none) := Lib.hid (grownBy_drewN (World.grownBy.refl wr none) 1)
      have HBp : Hid (Bk wr.drew w.heap.size 24 p.cells) := Lib.hid (hbp.drewN 1)
      have hp := hbp.prule
      have hlt := hbp.lt
      have HLB : Hid ((((m.take j).map fun l => shareI p (turnedI p l) x).length + 1) * 24 ≤ 140737488355328) := Lib.hid (by simp; omega)
      clear hacc hg hbp hsu e2 HX HST hz1 hz2
      generalize hy : m[j] = z at HSN HF hcu HSL HT HWD
      clear hy
      generalize z.length = n1 at *
      go_wp2_with fail
      go_region_held3 (fun w' => ∀ o, w'.cell? ⟨w.heap.size, o, none⟩ = (#[.int .u64 p.P, .int .u64 p.Q, .int .u64 p.G, .int .u64 p.H, .int .i64 p.Nodes, .int .i64 p.N, .int .i64 p.T, .int .i64 p.K, .int .i64 p.D, .int .i64 p.R, .int .i64 p.M, .int .i64 p.X] : Array Value)[o]?) (first | assumption | exact rule_alloc (by assumption) (by assumption) _ | go_keep) (first
        | (go_at_call 100; (with_reducible refine (HT.out _ HGd.out).mono ?_); rintro e' w1 ⟨v1, rfl, hs1, hg1⟩; have HV1 := Lib.hid hs1; have HG1 := Lib.hid (HG.out.trans hg1); have HA1 := Lib.hid (HAC.out.kept hg1); have HB1 := Lib.hid (HBp.out.grown hg1 (by simp)); have hp1 := HB1.out.prule; have hl1 := HB1.out.lt; clear hs1 hg1)
        | (go_at_call 17; (with_reducible refine (HF.out _ _ _ HV1.out).mono ?_); rintro e' w2 ⟨v2, rfl, hs2, hg2⟩; obtain ⟨A2, c2, e2, _, _⟩ := hs2.form; rw [HSL.out] at e2; subst e2; have HG2 := Lib.hid (HG1.out.trans hg2); have HA2 := Lib.hid (HA1.out.kept hg2); have HB2 := Lib.hid (HB1.out.grown hg2 (by simp)); have hp2 := HB2.out.prule; have hl2 := HB2.out.lt; have HREP : Hid (Enc.rep (encS encU) (fun g => w.heap.size ≤ g ∧ some g ≠ u7.ownBlock) w2 [.slice A2 (wideI z) c2] (shareI p (turnedI p z) x)) := Lib.hid ⟨_, rfl, hs2.fresh HG1.out HA1.out⟩; clear hs2 hg2)
        | (refine step_pushG rfl (.tmp 16) (.tmp 23) rfl (E := encS encU) (y := shareI p (turnedI p z) x) el_nums HG2.out HA2.out (fun _ h => h) HREP.out HLB.out rfl rfl ?_; intro v3 w3 hacc3 hg3 hgo3; have HA3 := Lib.hid hacc3; have HG3 := Lib.hid hg3; have HB3 := Lib.hid (HB2.out.grown hgo3 (fun e => HA2.out.ne_bk HB2.out (by decide) e.symm)); have hp3 := HB3.out.prule; clear hacc3 hg3 hgo3))
      have HFIN : Hid (Acc (encS encU) w.heap.size 25 (fun g => w.heap.size ≤ g) w3 v3 ((m.take (j + 1)).map fun l => shareI p (turnedI p l) x) ∧ w.grownBy w3 none ∧ Bk w3 w.heap.size 24 p.cells) := Lib.hid ⟨by rw [HSN.out]; simpa using HA3.out, HG3.out, HB3.out⟩
      clear HA3 HG3 HB3
      go_wp2_with fail
      go_roundg n
      case measure => omega
      case rel => exact ⟨j + 1, by omega, by go_num, HFIN⟩
set_option maxRecDepth 100000 in
set_option maxHeartbeats 400000 in
theorem sequal_any (v1 v2 : Value) (xs ys : List Int) (X Y : Nat → Prop) (w : World) (h1 : Sl encU X w v1 xs) (h2 : Sl encU Y w v2 ys) :
    Calls Tryz.prog 101 #[v1, v2] w fun e w' => e = .returned (.bool (decide (xs = ys))) ∧ w.grownBy w' none := by
  have H1 := Lib.hid h1
  have H2 := Lib.hid h2
  obtain ⟨A1, c1, rfl, hc1, hc2⟩ := h1.form
  obtain ⟨A2, c2, rfl, hc3, hc4⟩ := h2.form
  clear h1 h2
  by_cases hl : xs.length = ys.length
  · have HLN := Lib.hid hl
    have HST : Hid ((∃ n, w = w.drewN n) ∧ xs.take 0 = ys.take 0) := Lib.hid ⟨⟨0, rfl⟩, rfl⟩
    rw [hl] at H1 hc1 ⊢
    clear hl
    go_enter Tryz.func101, Tryz.ntmps101
    go_wp2_with fail
    go_loopg [13] ys.length (fun g s13 wx => ∃ j : Nat, j + g = ys.length ∧ s13 = .int .i64 j ∧ Hid ((∃ n, wx = w.drewN n) ∧ xs.take j = ys.take j))
    case atStart => exact ⟨0, by omega, rfl, HST⟩
    case round =>
      obtain ⟨j, hj, rfl, HX⟩ := hrel
      obtain ⟨⟨n0, rfl⟩, htk⟩ := HX.out
      cases gk with
      | zero =>
        obtain rfl : j = ys.length := by omega
        have HE : Hid (decide (xs = ys) = true) := Lib.hid (by
          rw [List.take_length, ← HLN.out, List.take_length] at htk
          simpa using htk)
        clear HX HST htk
        go_wp2
        go_ret
        exact ⟨ret_bool HE.out.symm, grown_drewN' w _⟩
      | succ m =>
        have hjn : (j : Int) < (ys.length : Int) := by omega
        have hj0 : (0 : Int) ≤ (j : Int) := by omega
        have hjN : j < ys.length := by omega
        have hjX : j < xs.length := by rw [HLN.out]; exact hjN
        obtain ⟨g1, o1, c1', e1, _, _, a1, u1⟩ := (HLN.out ▸ H1.out : Sl encU X w (.slice A1 xs.length c1) xs).atU hjX
        injection e1 with e11 e12 e13
        subst e11 e13
        obtain ⟨g2, o2, c2', e2, _, _, a2, _⟩ := H2.out.atU hjN
        injection e2 with e21 e22 e23
        subst e21 e23
        have HSX := Lib.hid (List.take_succ_eq_append_getElem hjX)
        have HSY := Lib.hid (List.take_succ_eq_append_getElem hjN)
        have HTK := Lib.hid htk
        by_cases hxy : xs[j] = ys[j]
        · have HNX : Hid (xs.take (j + 1) = ys.take (j + 1)) := Lib.hid (by rw [HSX.out, HSY.out, hxy, HTK.out])
          rw [hxy] at a1
          clear HX HST e12 e22 htk hxy HSX HSY
          generalize ys[j] = y at *
          go_wp2_with fail
          go_quiet (fail)
          go_wp2_with fail
          go_roundg m
          case measure => omega
          case rel => exact ⟨j + 1, by omega, by go_num, Lib.hid ⟨⟨_, rfl⟩, HNX.out⟩⟩
        · have HE : Hid (decide (xs = ys) = false) := Lib.hid (by simp only [decide_eq_false_iff_not]; intro e; apply hxy; subst e; rfl)
          have hd : (xs[j] != ys[j]) = true := by simpa using hxy
          clear HX HST e12 e22 htk hxy HSX HSY
          generalize ys[j] = y at *
          generalize xs[j] = x at *
          go_wp2_with fail
          go_quiet (fail)
          go_wp2
          go_ret
          exact ⟨ret_bool HE.out.symm, (grown_drewN' w _).trans (grown_drewN' _ _)⟩
  · have hd : ((xs.length : Int) != (ys.length : Int)) = true := by simp; omega
    have HE : Hid (decide (xs = ys) = false) := Lib.hid (by simp only [decide_eq_false_iff_not]; intro e; exact hl (by rw [e]))
    clear hl
    go_enter Tryz.func101, Tryz.ntmps101
    go_wp2
    go_ret
    exact ⟨ret_bool HE.out.symm, World.grownBy.refl w none⟩
theorem commit_U64' (p : Par) (x : Int × Int) : U64 (commitI p x) := timesI_U64 _ _
def fitsI (p : Par) (coms : List (List Int)) (i : Int) (l : List (Int × Int)) : Bool := decide (l.map (commitI p) = shareI p coms i)
set_option maxRecDepth 100000 in
set_option maxHeartbeats 1000000 in
theorem fits_any (p : Par) (v1 : Value) (coms : List (List Int)) (i : Int) (v2 : Value) (l : List (Int × Int)) (X Y : Nat → Prop) (w : World) (hp : p.ok) (h1 : Sl (encS encU) X w v1 coms) (hi : U64 i) (h2 : Sl encP Y w v2 l) (hb : coms.length ≤ 100000) (hb2 : l.length ≤ 100000) :
    Calls Tryz.prog 63 #[p.v, v1, .int .u64 i, v2] w fun e w' => e = .returned (.bool (fitsI p coms i l)) ∧ w.grownBy w' none := by
  have HP := Lib.hid hp
  have HSH := Lib.hid (fun (w' : World) (hw : w.grownBy w' none) => share_any p v1 coms i X w' (h1.kept hw) hi hb)
  have H := Lib.hid h2
  obtain ⟨A, c, rfl, hc1, hc2⟩ := h2.form
  have HST : Hid (Acc encU w.heap.size 22 (fun g => w.heap.size ≤ g) (w.alloc (Obj.cells p.cells 24)) (.slice none 0 0) ((l.take 0).map (commitI p)) ∧ w.grownBy (w.alloc (Obj.cells p.cells 24)) none ∧ Bk (w.alloc (Obj.cells p.cells 24)) w.heap.size 24 p.cells) := Lib.hid ⟨Acc.nil _ _ _ _ _, World.grownBy_alloc w _ none, Bk.new w _ _⟩
  clear h1 h2 hi hp hb
  go_enter Tryz.func63, Tryz.ntmps63
  go_wp2_with fail
  go_loopg [9, 14] l.length (fun g s9 s14 wx => ∃ j : Nat, j + g = l.length ∧ s14 = .int .i64 j ∧ Hid (Acc encU w.heap.size 22 (fun g => w.heap.size ≤ g) wx s9 ((l.take j).map (commitI p)) ∧ w.grownBy wx none ∧ Bk wx w.heap.size 24 p.cells))
  case atStart => exact ⟨0, by omega, rfl, HST⟩
  case round =>
    obtain ⟨j, hj, rfl, HX⟩ := hrel
    cases gk with
    | zero =>
      obtain rfl : j = l.length := by omega
      have HS9 : Hid (Sl encU (fun g => w.heap.size ≤ g) wr u9 (l.map (commitI p))) := Lib.hid (by have := HX.out.1.sl; rwa [List.take_length] at this)
      have HG := Lib.hid HX.out.2.1
      have hp := HX.out.2.2.prule
      clear HX HST
      go_wp2_with fail
      refine (HSH.out _ HG.out).mono ?_
      rintro e' w1 ⟨u1, rfl, hs1, hg1⟩
      have HEQ := Lib.hid (sequal_any u9 u1 _ _ _ _ w1 (HS9.out.kept hg1) hs1)
      have HG1 := Lib.hid (HG.out.trans hg1)
      clear hs1 hg1 hp
      go_wp2_with fail
      refine HEQ.out.mono ?_
      rintro e' w2 ⟨rfl, hg2⟩
      have HG2 := Lib.hid (HG1.out.trans hg2)
      clear hg2
      go_wp2
      go_ret
      exact ⟨rfl, HG2.out⟩
    | succ m =>
      have hjn : (j : Int) < (l.length : Int) := by omega
      have hjN : j < l.length := by omega
      obtain ⟨hacc, hg, hbp⟩ := HX.out
      obtain ⟨g, o, c', e, hgl, _, hcu1, hcu2, hu1, hu2⟩ := (H.out.kept hg).atP hjN
      injection e with e1 e2 e3
      subst e1 e3
      have HSN := Lib.hid (map_take_snoc' (commitI p) l j hjN)
      have HU := Lib.hid (commit_U64' p l[j])
      have HF := Lib.hid (fun (w' : World) => commit_any p l[j] w' HP.out hu1 hu2)
      generalize hy : l[j] = y at HSN HU HF hcu1 hcu2 hu1 hu2
      clear hy
      have HG1 : Hid (wr.grownBy (wr.alloc (Obj.cells #[.int .u64 y.1, .int .u64 y.2] 58)) none) := Lib.hid (World.grownBy_alloc wr _ none)
      have HAC := Lib.hid (hacc.kept HG1.out)
      have HG := Lib.hid (hg.trans HG1.out)
      have HBp := Lib.hid (hbp.grown HG1.out (by simp))
      have hp := hbp.prule
      have hlp := hbp.lt
      have HLB : Hid ((((l.take j).map (commitI p)).length + 1) * 8 ≤ 140737488355328) := Lib.hid (by simp; omega)
      clear hacc hg hbp e2 HX HST hu1 hu2
      go_wp2_with fail
      refine (HF.out _).mono ?_
      rintro e' w1 ⟨rfl, hg1⟩
      have HG2 := Lib.hid (HG.out.trans hg1)
      have HA1 := Lib.hid (HAC.out.kept hg1)
      have HBp1 := Lib.hid (HBp.out.grown hg1 (by simp))
      clear hg1 hp
      go_wp2_with (at_builtin; refine wpList_pushG rfl (.tmp 18) (.tmp 22) rfl (E := encU) el_u64 HG2.out HA1.out (fun _ h => h) ⟨rfl, HU.out⟩ HLB.out rfl rfl ?_)
      intro v2 w2 hacc2 hg2 hgo
      have HFIN : Hid (Acc encU w.heap.size 22 (fun g => w.heap.size ≤ g) w2 v2 ((l.take (j + 1)).map (commitI p)) ∧ w.grownBy w2 none ∧ Bk w2 w.heap.size 24 p.cells) := Lib.hid ⟨by rw [HSN.out]; simpa using hacc2, hg2, HBp1.out.grown hgo (fun e => HA1.out.ne_bk HBp1.out (by decide) e.symm)⟩
      clear hacc2 hg2 hgo
      go_wp2_with fail
      go_roundg m
      case measure => omega
      case rel => exact ⟨j + 1, by omega, by go_num, HFIN⟩
end Go.Proofs.YtnjkelojkoeihaaGreatDoor

namespace Go.Proofs.YtnjkelojkoeihaaGreatDoor
open Go.RowKit

def triedL : List Int := [2, 3, 5, 7, 11, 13, 17, 19, 23, 29, 31, 37]
/-- The two tables, where their variables lie. -/
def TabsAt (w : World) : Prop := (∀ j, j < Lib.deBruijn64tab.length → w.cell? ⟨1, j, none⟩ = some (.int .u8 (Lib.deBruijn64tab.getD j 0))) ∧ (∀ j, j < 12 → w.cell? ⟨0, j, none⟩ = some (.int .u64 (triedL.getD j 0)))
theorem TabsAt.drewN {w : World} (h : TabsAt w) (n : Nat) : TabsAt (w.drewN n) := h

set_option maxHeartbeats 400000 in
theorem tz64_core (x k idx : Nat) (w : World) (hx0 : ((x : Int) == 0) = false)
    (key : IntKind.u64.wrap (bits BinOp.and IntKind.u64 (x : Int) (IntKind.u64.wrap (-(x : Int))) * 285870213051353865) / 288230376151711744 = (idx : Int))
    (hi : idx < 64) (hk : k < 64) (hcell : w.cell? ⟨1, idx, none⟩ = some (.int .u8 k)) :
    Calls Tryz.prog 84 #[.int .u64 x] w fun e w' => e = .returned (.int .i64 k) ∧ w' = w := by
  go_enter Tryz.func84, Tryz.ntmps84
  go_wp2_with (simp only [key])
  go_ret
  exact ⟨rfl, rfl⟩

theorem tz64_key (x a : Nat) (hx : x < 18446744073709551616) (hx0 : x ≠ 0) (hlow : x &&& (18446744073709551616 - x) = a) :
    IntKind.u64.wrap (bits BinOp.and IntKind.u64 (x : Int) (IntKind.u64.wrap (-(x : Int))) * 285870213051353865) / 288230376151711744 = ((a * 285870213051353865 % 18446744073709551616 / 288230376151711744 : Nat) : Int) := by
  have e1 : IntKind.u64.wrap (-(x : Int)) = ((18446744073709551616 - x : Nat) : Int) := by rw [IntKind.wrap_u64]; omega
  rw [e1, bits_and_u64_nat x _ hx (by omega), hlow, IntKind.wrap_u64]
  omega

theorem tz64_any (x : Int) (w : World) (h0 : 0 < x) (h1 : x < 18446744073709551616) (hT : TabsAt w) :
    Calls Tryz.prog 84 #[.int .u64 x] w fun e w' => e = .returned (.int .i64 (Lib.ctz 64 x.toNat)) ∧ w' = w := by
  obtain ⟨n, rfl⟩ := Int.eq_ofNat_of_zero_le (show 0 ≤ x by omega)
  rw [Int.toNat_natCast]
  have hx0 : n ≠ 0 := by omega
  have hx : n < 18446744073709551616 := by omega
  obtain ⟨hlow, hk⟩ := Lib.lowest_bit 64 n hx0 hx
  obtain ⟨hi, htab⟩ := Lib.deBruijn64_at _ hk
  have hcell := hT.1 _ hi
  rw [htab] at hcell
  exact tz64_core n _ _ w (by simp; omega) (tz64_key n _ hx hx0 hlow) hi hk hcell

/-- Squares until n - 1 is met. -/
def witB (n : Int) : Nat → Int → Bool
  | 0, _ => false
  | k + 1, x => x == n - 1 || witB n k (mulI x x n)
def passB (n a : Int) (t : Nat) : Bool := powI a ((n - 1) / 2 ^ t) n == 1 || witB n t (powI a ((n - 1) / 2 ^ t) n)
def goB (n : Int) (t : Nat) : List Int → Bool
  | [] => true
  | a :: l => if n % a = 0 then decide (n = a) else if passB n a t then goB n t l else false
def primeB (n : Int) : Bool := if n < 2 ∨ 2305843009213693952 < n then false else goB n (Lib.ctz 64 (n - 1).toNat) triedL

set_option maxHeartbeats 400000 in
theorem prime_out (n : Int) (w : World) (h : n < 2 ∨ 2305843009213693952 < n) :
    Calls Tryz.prog 42 #[.int .u64 n] w fun e w' => e = .returned (.bool false) ∧ ∃ k, w' = w.drewN k := by
  by_cases h2 : n < 2
  · clear h
    have h2' : decide (n < 2) = true := by simpa using h2
    go_enter Tryz.func42, Tryz.ntmps42
    go_wp2
    go_step3
    go_wp2
    (try rw [Exit.noGoto_ret])
    go_ret
    exact ⟨rfl, 0, rfl⟩
  · have h2' : decide (n < 2) = false := by simpa using h2
    have h3 : 2305843009213693952 < n := h.resolve_left h2
    have h3' : decide (2305843009213693952 < n) = true := by simpa using h3
    clear h
    go_enter Tryz.func42, Tryz.ntmps42
    go_wp2
    go_step3
    go_wp2
    (try rw [Exit.noGoto_ret])
    go_ret
    exact ⟨rfl, 0, rfl⟩

theorem powI_U64 (a e m : Int) : U64 (powI a e m) := by
  cases hm : mayB m with
  | false => simp [powI, hm, U64]
  | true =>
    simp only [powI, hm, if_true]
    simp [mayB] at hm
    have := emod_bd (a ^ e.toNat) m hm.1
    unfold U64
    omega
/-- The k-th of the numbers: what it is, and how the walk reads it. -/
theorem tried_at : ∀ k : Nat, k < 12 → ∃ p : Int, triedL.drop k = p :: triedL.drop (k + 1) ∧ 2 ≤ p ∧ p ≤ 37 ∧
    ∀ w, (Instr.index 116 (.agg #[.int .u64 2, .int .u64 3, .int .u64 5, .int .u64 7, .int .u64 11, .int .u64 13, .int .u64 17, .int .u64 19, .int .u64 23, .int .u64 29, .int .u64 31, .int .u64 37]) (.int .i64 k)).run Tryz.prog w = .ok (.int .u64 p) w := by
  intro k hk
  match k, hk with
  | 0, _ => exact ⟨2, rfl, by decide, by decide, fun _ => by kernel_rfl⟩
  | 1, _ => exact ⟨3, rfl, by decide, by decide, fun _ => by kernel_rfl⟩
  | 2, _ => exact ⟨5, rfl, by decide, by decide, fun _ => by kernel_rfl⟩
  | 3, _ => exact ⟨7, rfl, by decide, by decide, fun _ => by kernel_rfl⟩
  | 4, _ => exact ⟨11, rfl, by decide, by decide, fun _ => by kernel_rfl⟩
  | 5, _ => exact ⟨13, rfl, by decide, by decide, fun _ => by kernel_rfl⟩
  | 6, _ => exact ⟨17, rfl, by decide, by decide, fun _ => by kernel_rfl⟩
  | 7, _ => exact ⟨19, rfl, by decide, by decide, fun _ => by kernel_rfl⟩
  | 8, _ => exact ⟨23, rfl, by decide, by decide, fun _ => by kernel_rfl⟩
  | 9, _ => exact ⟨29, rfl, by decide, by decide, fun _ => by kernel_rfl⟩
  | 10, _ => exact ⟨31, rfl, by decide, by decide, fun _ => by kernel_rfl⟩
  | 11, _ => exact ⟨37, rfl, by decide, by decide, fun _ => by kernel_rfl⟩

set_option maxHeartbeats 400000 in
theorem prime_in (n : Int) (w : World) (h2 : 2 ≤ n) (h3 : n ≤ 2305843009213693952) (hT : TabsAt w) :
    Calls Tryz.prog 42 #[.int .u64 n] w fun e w' => e = .returned (.bool (goB n (Lib.ctz 64 (n - 1).toNat) triedL)) ∧ ∃ k, w' = w.drewN k := by
  have h2' : decide (n < 2) = false := by simp; omega
  have h3' : decide (2305843009213693952 < n) = false := by simp; omega
  have HT := Lib.hid hT
  obtain ⟨t, ht⟩ : ∃ t, t = Lib.ctz 64 (n - 1).toNat := ⟨_, rfl⟩
  have ht64 : t < 64 := by rw [ht]; exact (Lib.lowest_bit 64 (n - 1).toNat (by omega) (by omega)).2
  have HZ := Lib.hid (tz64_any (n - 1) w (by omega) (by omega) hT)
  rw [← ht] at HZ ⊢
  clear ht hT
  go_enter Tryz.func42, Tryz.ntmps42
  go_wp2
  go_step3
  go_wp2_with fail
  refine HZ.out.mono ?_
  rintro e w' ⟨rfl, hw'⟩
  rw [hw']
  clear hw'
  go_wp2_with fail
  go_step3
  have k0 : w.cell? ⟨0, 0, none⟩ = some (.int .u64 2) := HT.out.2 0 (by decide)
  have k1 : w.cell? ⟨0, 1, none⟩ = some (.int .u64 3) := HT.out.2 1 (by decide)
  have k2 : w.cell? ⟨0, 2, none⟩ = some (.int .u64 5) := HT.out.2 2 (by decide)
  have k3 : w.cell? ⟨0, 3, none⟩ = some (.int .u64 7) := HT.out.2 3 (by decide)
  have k4 : w.cell? ⟨0, 4, none⟩ = some (.int .u64 11) := HT.out.2 4 (by decide)
  have k5 : w.cell? ⟨0, 5, none⟩ = some (.int .u64 13) := HT.out.2 5 (by decide)
  have k6 : w.cell? ⟨0, 6, none⟩ = some (.int .u64 17) := HT.out.2 6 (by decide)
  have k7 : w.cell? ⟨0, 7, none⟩ = some (.int .u64 19) := HT.out.2 7 (by decide)
  have k8 : w.cell? ⟨0, 8, none⟩ = some (.int .u64 23) := HT.out.2 8 (by decide)
  have k9 : w.cell? ⟨0, 9, none⟩ = some (.int .u64 29) := HT.out.2 9 (by decide)
  have k10 : w.cell? ⟨0, 10, none⟩ = some (.int .u64 31) := HT.out.2 10 (by decide)
  have k11 : w.cell? ⟨0, 11, none⟩ = some (.int .u64 37) := HT.out.2 11 (by decide)
  go_wp2_with fail
  clear k0 k1 k2 k3 k4 k5 k6 k7 k8 k9 k10 k11
  go_loopg [17] 12 (fun g s17 wx => ∃ k : Nat, k + g = 12 ∧ s17 = .int .i64 k ∧ Hid (goB n t (triedL.drop k) = goB n t triedL) ∧ ∃ q, wx = w.drewN q)
  case atStart => exact ⟨0, rfl, rfl, Lib.hid rfl, 0, rfl⟩
  case round =>
    obtain ⟨k, hkg, rfl, HG, q, rfl⟩ := hrel
    cases gk with
    | zero =>
      obtain rfl : k = 12 := by omega
      have HE : Hid (true = goB n t triedL) := Lib.hid HG.out
      go_wp2
      (try rw [Exit.noGoto_ret])
      go_ret
      exact ⟨congrArg Ending.returned (congrArg Value.bool HE.out), _, rfl⟩
    | succ g =>
      have hk : k < 12 := by omega
      obtain ⟨p, hd, hp2, hp37, hidx⟩ := tried_at k hk
      have HG2 : Hid (goB n t (p :: triedL.drop (k + 1)) = goB n t triedL) := Lib.hid (by rw [← hd]; exact HG.out)
      clear HG hd
      by_cases hdv : n % p = 0
      · have HE : Hid ((n == p) = goB n t triedL) := Lib.hid (by rw [← HG2.out]; simp only [goB, hdv, if_true]; rfl)
        go_wp2
        (try rw [Exit.noGoto_ret])
        go_ret
        exact ⟨congrArg Ending.returned (congrArg Value.bool HE.out), _, rfl⟩
      · have hdv' : (n % p == 0) = false := by simpa using hdv
        have e0 : 0 ≤ (n - 1) / 2 ^ t := Int.ediv_nonneg (by omega) (Int.le_of_lt (Int.pow_pos (by decide)))
        have e1 : (n - 1) / 2 ^ t ≤ n - 1 := Int.ediv_le_self _ (by omega)
        have HP := Lib.hid (fun w => pow_any p ((n - 1) / 2 ^ t) n w ⟨by omega, by omega⟩ ⟨e0, by omega⟩)
        have hG3 := HG2.out
        simp only [goB, hdv, if_false] at hG3
        have HX := powI_U64 p ((n - 1) / 2 ^ t) n
        unfold passB at hG3
        generalize powI p ((n - 1) / 2 ^ t) n = x0 at HP hG3 HX
        have HU := Lib.hid HX
        clear HX hdv HG2
        by_cases hx1 : x0 = 1
        · have HN : Hid (goB n t (triedL.drop (k + 1)) = goB n t triedL) := Lib.hid (by rw [← hG3]; simp [hx1])
          clear hG3
          have hx1' : (x0 == 1) = true := by simpa using hx1
          clear hx1
          go_wp2_with fail
          refine (HP.out _).mono ?_
          rintro e w' ⟨rfl, n1, rfl⟩
          go_wp2
          go_roundg g
          case measure => omega
          case rel => exact ⟨k + 1, by omega, by go_num, HN, _, rfl⟩
        · have hx1' : (x0 == 1) = false := by simpa using hx1
          have HN : Hid ((if witB n t x0 then goB n t (triedL.drop (k + 1)) else false) = goB n t triedL) := Lib.hid (by rw [← hG3]; simp [hx1'])
          clear hG3 hx1
          go_wp2_with fail
          refine (HP.out _).mono ?_
          rintro e w' ⟨rfl, n1, rfl⟩
          go_wp2_with fail
          clear hidx
          go_loopg [6, 37] t (fun h s6 s37 wx => ∃ (x : Int) (j : Nat), j + h = t ∧ s6 = .int .u64 x ∧ Hid (U64 x) ∧ s37 = .int .i64 j ∧ Hid (witB n h x = witB n t x0) ∧ ∃ q, wx = w.drewN q)
          case atStart => exact ⟨x0, 0, by omega, rfl, HU, rfl, Lib.hid rfl, _, rfl⟩
          case round =>
            obtain ⟨x, j, hj, rfl, hx, rfl, hW, q2, rfl⟩ := hrel
            cases gk with
            | zero =>
              obtain rfl : j = t := by omega
              have HE : Hid (false = goB n j triedL) := Lib.hid (by
                have := HN.out
                rw [← hW.out] at this
                simpa [witB] using this)
              go_wp2
              (try rw [Exit.noGoto_ret])
              go_ret
              exact ⟨congrArg Ending.returned (congrArg Value.bool HE.out), _, rfl⟩
            | succ h =>
              have hjt : (j : Int) < (t : Int) := by omega
              by_cases hxn : x = n - 1
              · have HE : Hid (goB n t (triedL.drop (k + 1)) = goB n t triedL) := Lib.hid (by
                  have := HN.out
                  rw [← hW.out] at this
                  simpa [witB, hxn] using this)
                have hxn' : (x == n - 1) = true := by simpa using hxn
                clear hxn hx1'
                go_wp2
                go_roundg g
                case measure => omega
                case rel => exact ⟨k + 1, by omega, by go_num, HE, _, rfl⟩
              · have hxn' : (x == n - 1) = false := by simpa using hxn
                have HW2 : Hid (witB n h (mulI x x n) = witB n t x0) := Lib.hid (by
                  have := hW.out
                  simpa [witB, hxn'] using this)
                have HX2 := Lib.hid (mulI_U64 x x n)
                clear hxn
                go_wp2_with fail
                refine (mul_any x x n _ hx.out hx.out).mono ?_
                rintro e w' ⟨rfl, n2, rfl⟩
                go_wp2
                go_roundg h
                case measure => omega
                case rel => exact ⟨mulI x x n, j + 1, by omega, rfl, HX2, by go_num, HW2, _, rfl⟩

theorem prime_any (n : Int) (w : World) (hT : TabsAt w) :
    Calls Tryz.prog 42 #[.int .u64 n] w fun e w' => e = .returned (.bool (primeB n)) ∧ ∃ k, w' = w.drewN k := by
  by_cases h : n < 2 ∨ 2305843009213693952 < n
  · rw [show primeB n = false by simp only [primeB, if_pos h]]
    exact prime_out n w h
  · rw [show primeB n = goB n (Lib.ctz 64 (n - 1).toNat) triedL by simp only [primeB, if_neg h]]
    exact prime_in n w (by omega) (by omega) hT
end Go.Proofs.YtnjkelojkoeihaaGreatDoor

namespace Go.Proofs.YtnjkelojkoeihaaGreatDoor
open Go.ChangeShapes Go.WideShapes Go.RowKit

theorem u64_wf {a : Int} (h : (Lit.int .u64 a).wf = true) : U64 a := by
  have := bounds_u64 h
  unfold U64
  omega
theorem i64_wf {a : Int} (h : (Lit.int .i64 a).wf = true) : I64 a := by
  have := bounds_i64 h
  unfold I64
  omega
/-- Whatever is read at this type reads so. -/
def Reads {α : Type} (E : Enc α) (t : TypeId) : Prop :=
  ∀ {H : Type} {enc : TypeId × Value → H} {w : World} {base : Nat} {spare : Nat → Bool} {held : Bool} {fuel : Nat} {cs : List Value} {x : DataW H × List MemPlace},
    DataW.trod enc Tryz.prog w base spare held fuel t cs = some x → ∃ a, E.rep (fun _ => True) w cs a
theorem reads_u64 {t : TypeId} (ht : Tryz.prog.underlying t = some (.int .u64)) : Reads encU t := by
  intro H enc w base spare held fuel cs x h
  obtain ⟨n, rfl, _, hw⟩ := DataW.trod_int ht h
  exact ⟨n, rfl, u64_wf hw⟩
theorem reads_i64 {t : TypeId} (ht : Tryz.prog.underlying t = some (.int .i64)) : Reads encI t := by
  intro H enc w base spare held fuel cs x h
  obtain ⟨n, rfl, _, hw⟩ := DataW.trod_int ht h
  exact ⟨n, rfl, i64_wf hw⟩
theorem reads_pair {t u : TypeId} {f0 f1 : Field} (ht : Tryz.prog.underlying t = some (.struct #[f0, f1])) (h0 : f0.type = u ∧ f0.offset = 0) (h1 : f1.type = u ∧ f1.offset = 1)
    (hu : Tryz.prog.underlying u = some (.int .u64)) (hc : Tryz.prog.cellsOf t = 2) (hcu : Tryz.prog.cellsOf u = 1) : Reads encP t := by
  intro H enc w base spare held fuel cs x h
  obtain ⟨y0, y1, n, _, hl, e0, e1⟩ := trod_struct2 ht h
  rw [h0.1, h0.2, hcu] at e0
  rw [h1.1, h1.2, hcu] at e1
  obtain ⟨a, ea, _, wa⟩ := DataW.trod_int hu e0
  obtain ⟨b, eb, _, wb⟩ := DataW.trod_int hu e1
  rw [hc] at hl
  match cs, hl with
  | [c0, c1], _ =>
    simp at ea eb
    subst ea eb
    exact ⟨(a, b), rfl, u64_wf wa, u64_wf wb⟩
theorem reads_sl {α : Type} {E : Enc α} {t e : TypeId} (ht : Tryz.prog.underlying t = some (.slice e)) (hE : Reads E e) (hc : Tryz.prog.cellsOf e = E.size) : Reads (encS E) t := by
  intro H enc w base spare held fuel cs x h
  rcases Go.Deep.open_slice ht h with ⟨rfl, _⟩ | ⟨a, len, cap, m, n, D, Pl, rfl, _, hl, hm, hmm, _, hi⟩
  · exact ⟨[], _, rfl, Sl.nil _ _ _⟩
  · have hlm : len ≤ m := by rw [hmm]; split <;> omega
    have key : ∀ i, i < len → ∃ y, ∃ cs', E.rep (fun _ => True) w cs' y ∧ ∀ j, j < E.size → w.cell? (a.add (i * E.size + j)) = cs'[j]? := by
      intro i hil
      obtain ⟨cs', hcell, htr⟩ := hi i (by omega)
      obtain ⟨y, hy⟩ := hE htr
      obtain ⟨_, hlen, hat⟩ := World.cells?_some hcell
      rw [hc] at hat
      refine ⟨y, cs', hy, fun j hj => ?_⟩
      rw [← hat j hj, Go.Deep.add_add]
    have hcz : ∃ f : Fin len → α, ∀ i : Fin len, ∃ cs', E.rep (fun _ => True) w cs' (f i) ∧ ∀ j, j < E.size → w.cell? (a.add (i.1 * E.size + j)) = cs'[j]? :=
      ⟨fun i => Classical.choose (key i.1 i.2), fun i => Classical.choose_spec (key i.1 i.2)⟩
    obtain ⟨f, hf⟩ := hcz
    have hlen : (List.ofFn f).length = len := List.length_ofFn
    refine ⟨List.ofFn f, _, rfl, some a, cap, by rw [hlen], by omega, by unfold maxLen at hm; omega, fun hn => ?_⟩
    have hpos : 0 < len := by rw [← hlen]; exact List.length_pos_iff.2 hn
    obtain ⟨cs0, hr0, hc0⟩ := hf ⟨0, hpos⟩
    have h00 := hc0 0 E.pos
    have hl0 := E.len hr0
    rw [List.getElem?_eq_getElem (by rw [hl0]; exact E.pos)] at h00
    obtain ⟨g, o, sp⟩ := a
    have hsp : sp = none := by simpa [Addr.add] using World.cell?_spot h00
    subst hsp
    have h00' : w.cell? ⟨g, o, none⟩ = some (cs0[0]'(by rw [hl0]; exact E.pos)) := by simpa [Addr.add] using h00
    have hgl : g < w.heap.size := by
      rcases Nat.lt_or_ge g w.heap.size with hlt | hge
      · exact hlt
      · simp [World.cell?, Array.getElem?_eq_none hge] at h00'
    refine ⟨g, o, rfl, hgl, trivial, fun i hi' => ?_⟩
    obtain ⟨cs', hr', hc'⟩ := hf ⟨i, by omega⟩
    refine ⟨cs', by simpa using hr', fun j u hu => ?_⟩
    have hj : j < E.size := by
      rw [← E.len hr']
      exact (List.getElem?_eq_some_iff.1 hu).1
    rw [← hu, ← hc' j hj]
    have : (⟨g, o, none⟩ : Addr).add (i * E.size + j) = ⟨g, o + i * E.size + j, none⟩ := by
      unfold Addr.add
      split
      · rename_i h0
        have : i * E.size + j = 0 := by simpa using h0
        rw [show o + i * E.size + j = o by omega]
      · rw [Nat.add_assoc]
    rw [this]
/-- A slice that came in as an argument. -/
theorem open_sl {α : Type} {E : Enc α} {t : TypeId} (hR : Reads (encS E) t) {H : Type} {enc : TypeId × Value → H} {w : World} {base : Nat} {spare : Nat → Bool} {held : Bool} {a : Option Addr} {len cap : Nat} {d : DataW H} {p : List MemPlace}
    (h : DataW.Trod enc Tryz.prog w base spare held t (.slice a len cap) d p) : ∃ xs, Sl E (fun _ => True) w (.slice a len cap) xs := by
  obtain ⟨fuel, hf⟩ := h
  obtain ⟨xs, v, e, hs⟩ := hR hf
  simp [Value.cells] at e
  exact ⟨xs, by rw [e]; exact hs⟩
end Go.Proofs.YtnjkelojkoeihaaGreatDoor

namespace Go.Proofs.YtnjkelojkoeihaaGreatDoor
open Go.RowKit

def withinB (x lo hi : Int) : Bool := decide (lo ≤ x) && decide (x ≤ hi)
theorem withinB_iff (x lo hi : Int) : withinB x lo hi = true ↔ lo ≤ x ∧ x ≤ hi := by simp [withinB]
set_option maxHeartbeats 400000 in
theorem within_eq (x lo hi : Int) (b : Bool) (h : withinB x lo hi = b) (w : World) :
    Calls Tryz.prog 34 #[.int .i64 x, .int .i64 lo, .int .i64 hi] w fun e w' => e = .returned (.bool b) ∧ w' = w := by
  subst h
  by_cases h1 : lo ≤ x
  · by_cases h2 : x ≤ hi
    · have HE : Hid (withinB x lo hi = true) := Lib.hid (by simp [withinB, h1, h2])
      go_enter Tryz.func34, Tryz.ntmps34
      go_wp2
      go_ret
      exact ⟨ret_bool HE.out.symm, rfl⟩
    · have HE : Hid (withinB x lo hi = false) := Lib.hid (by simp [withinB, h2])
      have h2' : decide (x ≤ hi) = false := by simpa using h2
      clear h2
      go_enter Tryz.func34, Tryz.ntmps34
      go_wp2
      go_ret
      exact ⟨ret_bool HE.out.symm, rfl⟩
  · have HE : Hid (withinB x lo hi = false) := Lib.hid (by simp [withinB, h1])
    have h1' : decide (lo ≤ x) = false := by simpa using h1
    clear h1
    go_enter Tryz.func34, Tryz.ntmps34
    go_wp2
    go_ret
    exact ⟨ret_bool HE.out.symm, rfl⟩

def m1 (p : Par) : Bool := decide (2 ≤ p.P) && decide (p.P ≤ 2305843009213693952) && decide (2 ≤ p.Q) && ((p.P - 1) % p.Q == 0)
def m2 (p : Par) : Bool := withinB p.T 1 2
def m3 (p : Par) : Bool := withinB p.N (3 * p.T + 1) 7 && decide (p.N < p.Q)
def m4 (p : Par) : Bool := withinB p.Nodes p.N 8
def m5 (p : Par) : Bool := withinB p.K 1 2 && withinB p.D 1 4
def m6 (p : Par) : Bool := withinB p.R 1 p.D
def m7 (p : Par) : Bool := withinB p.M 1 1048576 && withinB p.X 1 1048576
def m8 (p : Par) : Bool := decide (2 * (p.D * p.M * p.X + p.M) < p.Q)
def m9 (p : Par) : Bool := primeB p.Q && primeB p.P
def m10 (p : Par) : Bool := decide (p.G ≠ 1) && isB p p.G && decide (p.H ≠ 1) && isB p p.H
def mayP (p : Par) : Bool := m1 p && m2 p && m3 p && m4 p && m5 p && m6 p && m7 p && m8 p && m9 p && m10 p

set_option maxHeartbeats 400000 in
theorem may_1 (p : Par) (g : Nat) (w : World) (hp : p.ok) (hb : Bk w g 24 p.cells) :
    Calls Tryz.prog 32 #[.pointer (some ⟨g, 0, none⟩)] w fun e w' => e = .returned (.bool (m1 p)) ∧ w.grownBy w' none := by
  have hc := hb.prule
  obtain ⟨p0, p1⟩ := hp.P
  obtain ⟨q0, q1⟩ := hp.Q
  clear hb hp
  by_cases h1 : 2 ≤ p.P
  · by_cases h2 : p.P ≤ 2305843009213693952
    · by_cases h3 : 2 ≤ p.Q
      · have HE : Hid (m1 p = ((p.P - 1) % p.Q == 0)) := Lib.hid (by simp [m1, h1, h2, h3])
        go_enter Tryz.func32, Tryz.ntmps32
        go_wp2
        go_ret
        exact ⟨ret_bool HE.out.symm, World.grownBy.refl w none⟩
      · have HE : Hid (m1 p = false) := Lib.hid (by simp [m1, h3])
        have h3' : decide (2 ≤ p.Q) = false := by simpa using h3
        clear h3
        go_enter Tryz.func32, Tryz.ntmps32
        go_wp2
        go_ret
        exact ⟨ret_bool HE.out.symm, World.grownBy.refl w none⟩
    · have HE : Hid (m1 p = false) := Lib.hid (by simp [m1, h2])
      have h2' : decide (p.P ≤ 2305843009213693952) = false := by simpa using h2
      clear h2
      go_enter Tryz.func32, Tryz.ntmps32
      go_wp2
      go_ret
      exact ⟨ret_bool HE.out.symm, World.grownBy.refl w none⟩
  · have HE : Hid (m1 p = false) := Lib.hid (by simp [m1, h1])
    have h1' : decide (2 ≤ p.P) = false := by simpa using h1
    clear h1
    go_enter Tryz.func32, Tryz.ntmps32
    go_wp2
    go_ret
    exact ⟨ret_bool HE.out.symm, World.grownBy.refl w none⟩
set_option maxHeartbeats 400000 in
theorem may_2 (p : Par) (g : Nat) (w : World) (hb : Bk w g 24 p.cells) :
    Calls Tryz.prog 33 #[.pointer (some ⟨g, 0, none⟩)] w fun e w' => e = .returned (.bool (m2 p)) ∧ w.grownBy w' none := by
  have hc := hb.prule
  have HW := Lib.hid (fun w => within_eq p.T 1 2 _ rfl w)
  clear hb
  go_enter Tryz.func33, Tryz.ntmps33
  go_wp2_with fail
  refine (HW.out _).mono ?_
  rintro e w' ⟨rfl, rfl⟩
  go_wp2
  go_ret
  exact ⟨rfl, World.grownBy.refl _ none⟩
set_option maxHeartbeats 400000 in
theorem may_3 (p : Par) (g : Nat) (w : World) (hp : p.ok) (hb : Bk w g 24 p.cells) (h2 : m2 p = true) :
    Calls Tryz.prog 35 #[.pointer (some ⟨g, 0, none⟩)] w fun e w' => e = .returned (.bool (m3 p)) ∧ w.grownBy w' none := by
  have hc := hb.prule
  obtain ⟨t0, t1⟩ := (withinB_iff _ _ _).1 h2
  obtain ⟨q0, q1⟩ := hp.Q
  clear hb hp h2
  cases hN : withinB p.N (3 * p.T + 1) 7 with
  | true =>
    obtain ⟨n0, n1⟩ := (withinB_iff _ _ _).1 hN
    have HW := Lib.hid (fun w => within_eq p.N (3 * p.T + 1) 7 _ hN w)
    have HE : Hid (m3 p = decide (p.N < p.Q)) := Lib.hid (by simp [m3, hN])
    clear hN
    go_enter Tryz.func35, Tryz.ntmps35
    go_wp2_with fail
    refine (HW.out _).mono ?_
    rintro e w' ⟨rfl, rfl⟩
    go_wp2
    go_ret
    exact ⟨ret_bool HE.out.symm, World.grownBy.refl _ none⟩
  | false =>
    have HW := Lib.hid (fun w => within_eq p.N (3 * p.T + 1) 7 _ hN w)
    have HE : Hid (m3 p = false) := Lib.hid (by simp [m3, hN])
    clear hN
    go_enter Tryz.func35, Tryz.ntmps35
    go_wp2_with fail
    refine (HW.out _).mono ?_
    rintro e w' ⟨rfl, rfl⟩
    go_wp2
    go_ret
    exact ⟨ret_bool HE.out.symm, World.grownBy.refl _ none⟩
set_option maxHeartbeats 400000 in
theorem may_4 (p : Par) (g : Nat) (w : World) (hb : Bk w g 24 p.cells) :
    Calls Tryz.prog 36 #[.pointer (some ⟨g, 0, none⟩)] w fun e w' => e = .returned (.bool (m4 p)) ∧ w.grownBy w' none := by
  have hc := hb.prule
  have HW := Lib.hid (fun w => within_eq p.Nodes p.N 8 _ rfl w)
  clear hb
  go_enter Tryz.func36, Tryz.ntmps36
  go_wp2_with fail
  refine (HW.out _).mono ?_
  rintro e w' ⟨rfl, rfl⟩
  go_wp2
  go_ret
  exact ⟨rfl, World.grownBy.refl _ none⟩
set_option maxHeartbeats 400000 in
theorem may_5 (p : Par) (g : Nat) (w : World) (hb : Bk w g 24 p.cells) :
    Calls Tryz.prog 37 #[.pointer (some ⟨g, 0, none⟩)] w fun e w' => e = .returned (.bool (m5 p)) ∧ w.grownBy w' none := by
  have hc := hb.prule
  clear hb
  cases hN : withinB p.K 1 2 with
  | true =>
    have HW := Lib.hid (fun w => within_eq p.K 1 2 _ hN w)
    have HV := Lib.hid (fun w => within_eq p.D 1 4 _ rfl w)
    have HE : Hid (m5 p = withinB p.D 1 4) := Lib.hid (by simp [m5, hN])
    clear hN
    go_enter Tryz.func37, Tryz.ntmps37
    go_wp2_with fail
    refine (HW.out _).mono ?_
    rintro e w' ⟨rfl, rfl⟩
    go_wp2_with fail
    refine (HV.out _).mono ?_
    rintro e w' ⟨rfl, rfl⟩
    go_wp2
    go_ret
    exact ⟨ret_bool HE.out.symm, World.grownBy.refl _ none⟩
  | false =>
    have HW := Lib.hid (fun w => within_eq p.K 1 2 _ hN w)
    have HE : Hid (m5 p = false) := Lib.hid (by simp [m5, hN])
    clear hN
    go_enter Tryz.func37, Tryz.ntmps37
    go_wp2_with fail
    refine (HW.out _).mono ?_
    rintro e w' ⟨rfl, rfl⟩
    go_wp2
    go_ret
    exact ⟨ret_bool HE.out.symm, World.grownBy.refl _ none⟩
set_option maxHeartbeats 400000 in
theorem may_6 (p : Par) (g : Nat) (w : World) (hb : Bk w g 24 p.cells) :
    Calls Tryz.prog 38 #[.pointer (some ⟨g, 0, none⟩)] w fun e w' => e = .returned (.bool (m6 p)) ∧ w.grownBy w' none := by
  have hc := hb.prule
  have HW := Lib.hid (fun w => within_eq p.R 1 p.D _ rfl w)
  clear hb
  go_enter Tryz.func38, Tryz.ntmps38
  go_wp2_with fail
  refine (HW.out _).mono ?_
  rintro e w' ⟨rfl, rfl⟩
  go_wp2
  go_ret
  exact ⟨rfl, World.grownBy.refl _ none⟩
set_option maxHeartbeats 400000 in
theorem may_7 (p : Par) (g : Nat) (w : World) (hb : Bk w g 24 p.cells) :
    Calls Tryz.prog 39 #[.pointer (some ⟨g, 0, none⟩)] w fun e w' => e = .returned (.bool (m7 p)) ∧ w.grownBy w' none := by
  have hc := hb.prule
  clear hb
  cases hN : withinB p.M 1 1048576 with
  | true =>
    have HW := Lib.hid (fun w => within_eq p.M 1 1048576 _ hN w)
    have HV := Lib.hid (fun w => within_eq p.X 1 1048576 _ rfl w)
    have HE : Hid (m7 p = withinB p.X 1 1048576) := Lib.hid (by simp [m7, hN])
    clear hN
    go_enter Tryz.func39, Tryz.ntmps39
    go_wp2_with fail
    refine (HW.out _).mono ?_
    rintro e w' ⟨rfl, rfl⟩
    go_wp2_with fail
    refine (HV.out _).mono ?_
    rintro e w' ⟨rfl, rfl⟩
    go_wp2
    go_ret
    exact ⟨ret_bool HE.out.symm, World.grownBy.refl _ none⟩
  | false =>
    have HW := Lib.hid (fun w => within_eq p.M 1 1048576 _ hN w)
    have HE : Hid (m7 p = false) := Lib.hid (by simp [m7, hN])
    clear hN
    go_enter Tryz.func39, Tryz.ntmps39
    go_wp2_with fail
    refine (HW.out _).mono ?_
    rintro e w' ⟨rfl, rfl⟩
    go_wp2
    go_ret
    exact ⟨ret_bool HE.out.symm, World.grownBy.refl _ none⟩
theorem mul_bd (a b x y : Int) (ha0 : 0 ≤ a) (ha : a ≤ x) (hb0 : 0 ≤ b) (hb : b ≤ y) : 0 ≤ a * b ∧ a * b ≤ x * y :=
  ⟨Int.mul_nonneg ha0 hb0, Int.mul_le_mul ha hb hb0 (by omega)⟩
set_option maxHeartbeats 400000 in
theorem may_8 (p : Par) (g : Nat) (w : World) (hp : p.ok) (hb : Bk w g 24 p.cells) (h5 : m5 p = true) (h7 : m7 p = true) :
    Calls Tryz.prog 40 #[.pointer (some ⟨g, 0, none⟩)] w fun e w' => e = .returned (.bool (m8 p)) ∧ w.grownBy w' none := by
  have hc := hb.prule
  simp only [m5, m7, Bool.and_eq_true, withinB_iff] at h5 h7
  obtain ⟨_, d0, d1⟩ := h5
  obtain ⟨⟨a0, a1⟩, x0, x1⟩ := h7
  obtain ⟨q0, q1⟩ := hp.Q
  obtain ⟨e0, e1⟩ := mul_bd p.D p.M 4 1048576 (by omega) d1 (by omega) a1
  obtain ⟨f0, f1⟩ := mul_bd (p.D * p.M) p.X (4 * 1048576) 1048576 e0 e1 (by omega) x1
  have HE : Hid (m8 p = decide (2 * (p.D * p.M * p.X + p.M) < p.Q)) := Lib.hid rfl
  clear hb hp
  go_enter Tryz.func40, Tryz.ntmps40
  go_wp2
  go_ret
  exact ⟨ret_bool HE.out.symm, World.grownBy.refl _ none⟩
end Go.Proofs.YtnjkelojkoeihaaGreatDoor

namespace Go.Proofs.YtnjkelojkoeihaaGreatDoor
open Go.RowKit

theorem m_may (P : Int) (h1 : 1 ≤ P) (h2 : P ≤ 2305843009213693952) : mayB P = true := by simp [mayB]; omega
theorem may_bds {m : Int} (h : mayB m = true) : 0 < m ∧ m ≤ 2305843009213693952 := by simpa [mayB] using h
theorem times_nil_eq (P : Int) (hm : mayB P = true) : timesI P [] = 1 % P := by
  show mulI 1 1 P = _
  rw [mulI_yes _ _ _ hm, Int.mul_one]
theorem times_two_eq (P a b : Int) (hm : mayB P = true) : timesI P [a, b] = a * b % P := by
  show mulI (mulI (mulI 1 1 P) a P) b P = _
  rw [mulI_yes _ _ _ hm, mulI_yes _ _ _ hm, mulI_yes _ _ _ hm, Int.mul_one]
  exact ((Cg.mod P _).trans ((Cg.mod P 1).mul_right a |>.trans (Cg.of_eq (Int.one_mul a)))).mul_right b
theorem times_two_cg (P a b : Int) (hm : mayB P = true) : Cg P (timesI P [a, b]) (a * b) := by
  rw [times_two_eq _ _ _ hm]
  exact Cg.mod _ _
theorem powI_yes (a e P : Int) (hm : mayB P = true) : powI a e P = a ^ e.toNat % P := by simp [powI, hm]
theorem powI_cg (a e P : Int) (hm : mayB P = true) : Cg P (powI a e P) (a ^ e.toNat) := by
  rw [powI_yes _ _ _ hm]
  exact Cg.mod _ _
theorem powI_base {a b e P : Int} (hm : mayB P = true) (h : Cg P a b) : powI a e P = powI b e P := by
  rw [powI_yes _ _ _ hm, powI_yes _ _ _ hm]
  exact h.pow _
/-- What two things are that are the same modulo P and are told modulo P. -/
theorem pow_unit {P x : Int} {n : Nat} (h : Cg P (x ^ n) 1) (k : Nat) : Cg P (x ^ k) (x ^ (k % n)) := by
  have e : x ^ k = (x ^ n) ^ (k / n) * x ^ (k % n) := by
    rw [← Int.pow_mul, ← Int.pow_add, Nat.div_add_mod]
  rw [e]
  refine ((h.pow (k / n)).mul_right _).trans (Cg.of_eq ?_)
  rw [Int.one_pow, Int.one_mul]
theorem toNat_mod (e Q : Int) (he : 0 ≤ e) (hQ : 0 < Q) : (e % Q).toNat = e.toNat % Q.toNat := by
  obtain ⟨a, rfl⟩ := Int.eq_ofNat_of_zero_le he
  obtain ⟨b, rfl⟩ := Int.eq_ofNat_of_zero_le (Int.le_of_lt hQ)
  have e : ((a : Int) % (b : Int)) = ((a % b : Nat) : Int) := by simp
  rw [e, Int.toNat_natCast, Int.toNat_natCast, Int.toNat_natCast]
theorem pow_mod {P x Q e : Int} (h : Cg P (x ^ Q.toNat) 1) (he : 0 ≤ e) (hQ : 0 < Q) : Cg P (x ^ (e % Q).toNat) (x ^ e.toNat) := by
  rw [toNat_mod e Q he hQ]
  exact (pow_unit h _).symm
/-- A power by a sum modulo Q. -/
theorem pow_addQ {P x Q e f : Int} (h : Cg P (x ^ Q.toNat) 1) (he : 0 ≤ e) (hf : 0 ≤ f) (hQ : mayB Q = true) : Cg P (x ^ (addI e f Q).toNat) (x ^ e.toNat * x ^ f.toNat) := by
  rw [addI_yes _ _ _ hQ]
  refine (pow_mod h (by omega) (may_bds hQ).1).trans (Cg.of_eq ?_)
  rw [← Int.pow_add, Int.toNat_add he hf]
theorem pow_mulQ {P x Q e f : Int} (h : Cg P (x ^ Q.toNat) 1) (he : 0 ≤ e) (hf : 0 ≤ f) (hQ : mayB Q = true) : Cg P (x ^ (mulI e f Q).toNat) ((x ^ e.toNat) ^ f.toNat) := by
  rw [mulI_yes _ _ _ hQ]
  refine (pow_mod h (Int.mul_nonneg he hf) (may_bds hQ).1).trans (Cg.of_eq ?_)
  rw [← Int.pow_mul, Int.toNat_mul he hf]

/-- What params that may be give. -/
structure Good (p : Par) : Prop where
  P : mayB p.P = true
  Q : mayB p.Q = true
  P2 : 2 ≤ p.P
  Q2 : 2 ≤ p.Q
  G : Cg p.P (p.G ^ p.Q.toNat) 1
  H : Cg p.P (p.H ^ p.Q.toNat) 1
  T : 1 ≤ p.T ∧ p.T ≤ 2
  N : 3 * p.T + 1 ≤ p.N ∧ p.N ≤ 7 ∧ p.N < p.Q
  K : 1 ≤ p.K ∧ p.K ≤ 2
  D : 1 ≤ p.D ∧ p.D ≤ 4
  prime : primeB p.Q = true ∧ primeB p.P = true
  M : 1 ≤ p.M ∧ p.M ≤ 1048576
  X : 1 ≤ p.X ∧ p.X ≤ 1048576
  big : 2 * (p.D * p.M * p.X + p.M) < p.Q
theorem is_cg {p : Par} {x : Int} (hP : mayB p.P = true) (h2 : 2 ≤ p.P) (h : isB p x = true) : Cg p.P (x ^ p.Q.toNat) 1 := by
  simp only [isB, Bool.and_eq_true, beq_iff_eq] at h
  have e := h.2
  rw [powI_yes _ _ _ hP] at e
  unfold Cg
  rw [e, Int.emod_eq_of_lt (by decide) (by omega)]
theorem good_of {p : Par} (h : mayP p = true) : Good p := by
  simp only [mayP, m1, m2, m3, m4, m5, m6, m7, m8, m9, m10, Bool.and_eq_true, withinB_iff, decide_eq_true_eq, beq_iff_eq] at h
  obtain ⟨⟨⟨⟨⟨⟨⟨⟨⟨⟨⟨⟨a1, a2⟩, a3⟩, a4⟩, b1, b2⟩, ⟨c1, c2⟩, c3⟩, d1⟩, ⟨e1, e2⟩, f1, f2⟩, g1⟩, ⟨i1, i2⟩, j1, j2⟩, k1⟩, l1, l2⟩, ⟨⟨n1, n2⟩, n3⟩, n4⟩ := h
  have hP := m_may p.P (by omega) a2
  have hd : p.Q ∣ p.P - 1 := Int.dvd_of_emod_eq_zero a4
  have hQ : p.Q ≤ p.P - 1 := Int.le_of_dvd (by omega) hd
  exact ⟨hP, m_may p.Q (by omega) (by omega), a1, a3, is_cg hP a1 n2, is_cg hP a1 n4, ⟨b1, b2⟩, ⟨c1, c2, c3⟩, ⟨e1, e2⟩, ⟨f1, f2⟩, ⟨l1, l2⟩, ⟨i1, i2⟩, ⟨j1, j2⟩, k1⟩

theorem pow_group {P g Q a : Int} (hm : mayB P = true) (h : Cg P (g ^ Q.toNat) 1) : Cg P ((powI g a P) ^ Q.toNat) 1 := by
  refine ((powI_cg g a P hm).pow _).trans ?_
  rw [← Int.pow_mul, Nat.mul_comm, Int.pow_mul]
  exact (h.pow _).trans (Cg.of_eq Int.one_pow)
/-- GroupPowers's three. -/
theorem powers_1 {P x Q e f : Int} (hm : mayB P = true) (hQ : mayB Q = true) (h : Cg P (x ^ Q.toNat) 1) (he : 0 ≤ e) (hf : 0 ≤ f) : timesI P [powI x e P, powI x f P] = powI x (addI e f Q) P := by
  rw [times_two_eq _ _ _ hm, powI_yes _ _ _ hm, powI_yes _ _ _ hm, powI_yes _ _ _ hm]
  exact (((Cg.mod P _).mul (Cg.mod P _)).trans (pow_addQ h he hf hQ).symm)
theorem powers_2 {P x Q e : Int} (hm : mayB P = true) (hQ : mayB Q = true) (h : Cg P (x ^ Q.toNat) 1) (he : 0 ≤ e) : powI x e P = powI x (e % Q) P := by
  rw [powI_yes _ _ _ hm, powI_yes _ _ _ hm]
  exact (pow_mod h he (may_bds hQ).1).symm
theorem powers_3 {P x Q e f : Int} (hm : mayB P = true) (hQ : mayB Q = true) (h : Cg P (x ^ Q.toNat) 1) (he : 0 ≤ e) (hf : 0 ≤ f) : powI (powI x e P) f P = powI x (mulI e f Q) P := by
  rw [powI_base hm (powI_cg x e P hm), powI_yes _ _ _ hm, powI_yes _ _ _ hm]
  exact (pow_mulQ h he hf hQ).symm

theorem commit_eq (p : Par) (x : Int × Int) (hm : mayB p.P = true) : commitI p x = p.G ^ x.1.toNat * p.H ^ x.2.toNat % p.P := by
  unfold commitI
  rw [times_two_eq _ _ _ hm]
  exact (powI_cg _ _ _ hm).mul (powI_cg _ _ _ hm)
theorem commit_cg (p : Par) (x : Int × Int) (hm : mayB p.P = true) : Cg p.P (commitI p x) (p.G ^ x.1.toNat * p.H ^ x.2.toNat) := by
  rw [commit_eq _ _ hm]
  exact Cg.mod _ _
theorem mul4 (a b c d : Int) : a * b * (c * d) = a * c * (b * d) := by
  rw [Int.mul_assoc, Int.mul_assoc, ← Int.mul_assoc b c d, Int.mul_comm b c, Int.mul_assoc c b d]
/-- The product of commitments is the one to the sums. -/
theorem sums_1 {p : Par} (h : Good p) (x y : Int × Int) (x1 : 0 ≤ x.1) (x2 : 0 ≤ x.2) (y1 : 0 ≤ y.1) (y2 : 0 ≤ y.2) : timesI p.P [commitI p x, commitI p y] = commitI p (addI x.1 y.1 p.Q, addI x.2 y.2 p.Q) := by
  rw [times_two_eq _ _ _ h.P, commit_eq p (addI x.1 y.1 p.Q, addI x.2 y.2 p.Q) h.P]
  refine ((commit_cg _ _ h.P).mul (commit_cg _ _ h.P)).trans ?_
  rw [mul4]
  exact ((pow_addQ h.G x1 y1 h.Q).mul (pow_addQ h.H x2 y2 h.Q)).symm
/-- A power of a commitment is the one to the multiples. -/
theorem sums_2 {p : Par} (h : Good p) (x : Int × Int) (k : Int) (x1 : 0 ≤ x.1) (x2 : 0 ≤ x.2) (hk : 0 ≤ k) : powI (commitI p x) k p.P = commitI p (mulI x.1 k p.Q, mulI x.2 k p.Q) := by
  rw [powI_yes _ _ _ h.P, commit_eq p (mulI x.1 k p.Q, mulI x.2 k p.Q) h.P]
  refine ((commit_cg _ _ h.P).pow _).trans ?_
  rw [Int.mul_pow]
  exact ((pow_mulQ h.G x1 hk h.Q).mul (pow_mulQ h.H x2 hk h.Q)).symm

/-- The values of polynomials, as the law reckons them. -/
def valGo (Q i : Int) : List (Int × Int) → Int × Int → Int → Int × Int
  | [], v, _ => v
  | y :: l, v, e => valGo Q i l (addI v.1 (mulI y.1 e Q) Q, addI v.2 (mulI y.2 e Q) Q) (mulI e i Q)
theorem commit_zero {p : Par} (h : Good p) : commitI p (0, 0) = timesI p.P [] := by
  rw [commit_eq _ _ h.P, times_nil_eq _ h.P]
  simp
theorem at_val {p : Par} (h : Good p) (i : Int) (hi : 0 ≤ i) : ∀ (l : List (Int × Int)) (v : Int × Int) (e : Int), (∀ y ∈ l, 0 ≤ y.1 ∧ 0 ≤ y.2) → 0 ≤ v.1 → 0 ≤ v.2 → 0 ≤ e →
    atGo p i (l.map (commitI p)) (commitI p v) e = commitI p (valGo p.Q i l v e)
  | [], v, e, _, _, _, _ => rfl
  | y :: l, v, e, hl, h1, h2, he => by
    obtain ⟨y1, y2⟩ := hl y (by simp)
    have k1 := mulI_U64 y.1 e p.Q
    have k2 := mulI_U64 y.2 e p.Q
    have k3 := mulI_U64 e i p.Q
    have k4 := addI_U64 v.1 (mulI y.1 e p.Q) p.Q
    have k5 := addI_U64 v.2 (mulI y.2 e p.Q) p.Q
    show atGo p i (l.map (commitI p)) (timesI p.P [commitI p v, powI (commitI p y) e p.P]) (mulI e i p.Q) = _
    rw [sums_2 h y e y1 y2 he, sums_1 h v _ h1 h2 k1.1 k2.1]
    exact at_val h i hi l _ _ (fun z hz => hl z (by simp [hz])) k4.1 k5.1 k3.1
theorem at_commits {p : Par} (h : Good p) (i : Int) (hi : 0 ≤ i) (l : List (Int × Int)) (hl : ∀ y ∈ l, 0 ≤ y.1 ∧ 0 ≤ y.2) : atI p (l.map (commitI p)) i = commitI p (valGo p.Q i l (0, 0) 1) := by
  unfold atI
  rw [← commit_zero h, show mulI 1 1 p.Q = 1 by rw [mulI_yes _ _ _ h.Q]; exact Int.emod_eq_of_lt (by decide) (by have := h.Q2; omega)]
  exact at_val h i hi l _ _ hl (by decide) (by decide) (by decide)
theorem mulI_modr (e i Q : Int) : mulI e (i % Q) Q = mulI e i Q := by
  simp only [mulI]
  rw [show i % Q % Q = i % Q from Cg.mod Q i]
theorem atGo_mod (p : Par) (i : Int) : ∀ (l : List Int) (x e : Int), atGo p (i % p.Q) l x e = atGo p i l x e
  | [], _, _ => rfl
  | y :: l, x, e => by
    show atGo p (i % p.Q) l _ (mulI e (i % p.Q) p.Q) = atGo p i l _ (mulI e i p.Q)
    rw [mulI_modr]
    exact atGo_mod p i l _ _
theorem at_mod (p : Par) (l : List Int) (i : Int) : atI p l (i % p.Q) = atI p l i := atGo_mod p i l _ _
end Go.Proofs.YtnjkelojkoeihaaGreatDoor

namespace Go.Proofs.YtnjkelojkoeihaaGreatDoor
open Go Go.RowKit

/-- The product of powers, as the integers have it. -/
def pg (Q i : Int) : List Int → Int → Int
  | [], _ => 1
  | y :: l, e => y ^ e.toNat * pg Q i l (mulI e i Q)
theorem atGo_cg {p : Par} (hm : mayB p.P = true) (i : Int) : ∀ (l : List Int) (x e : Int), Cg p.P (atGo p i l x e) (x * pg p.Q i l e)
  | [], x, e => Cg.of_eq (by simp [atGo, pg])
  | y :: l, x, e => by
    show Cg p.P (atGo p i l (timesI p.P [x, powI y e p.P]) (mulI e i p.Q)) _
    refine (atGo_cg hm i l _ _).trans ?_
    refine (((times_two_cg _ _ _ hm).trans (Cg.mul_left (powI_cg _ _ _ hm) x)).mul_right _).trans (Cg.of_eq ?_)
    simp only [pg, Int.mul_assoc]
theorem atI_cg {p : Par} (hm : mayB p.P = true) (l : List Int) (i : Int) : Cg p.P (atI p l i) (pg p.Q i l (mulI 1 1 p.Q)) := by
  refine (atGo_cg hm i l _ _).trans ?_
  rw [times_nil_eq _ hm]
  exact ((Cg.mod _ _).mul_right _).trans (Cg.of_eq (Int.one_mul _))
theorem atGo_red {p : Par} (hm : mayB p.P = true) (i : Int) : ∀ (l : List Int) (x e : Int), x % p.P = x → atGo p i l x e % p.P = atGo p i l x e
  | [], _, _, h => h
  | y :: l, x, e, _ => by
    refine atGo_red hm i l _ _ ?_
    rw [times_two_eq _ _ _ hm]
    exact Int.emod_emod_of_dvd _ (Int.dvd_refl _)
theorem atI_red {p : Par} (hm : mayB p.P = true) (l : List Int) (i : Int) : atI p l i % p.P = atI p l i := atGo_red hm i l _ _ (by rw [times_nil_eq _ hm]; exact Int.emod_emod_of_dvd _ (Int.dvd_refl _))
theorem atI_of_cg {p : Par} (hm : mayB p.P = true) {l l' : List Int} {i i' : Int} (h : Cg p.P (atI p l i) (atI p l' i')) : atI p l i = atI p l' i' := by
  rw [← atI_red hm l i, ← atI_red hm l' i']
  exact h
/-- Congruence, one by one. -/
def CgL (m : Int) : List Int → List Int → Prop
  | [], [] => True
  | a :: l, b :: k => Cg m a b ∧ CgL m l k
  | _, _ => False
theorem CgL.map {α : Type} {m : Int} {f g : α → Int} : ∀ (l : List α), (∀ x ∈ l, Cg m (f x) (g x)) → CgL m (l.map f) (l.map g)
  | [], _ => trivial
  | x :: l, h => ⟨h x (by simp), CgL.map l fun y hy => h y (by simp [hy])⟩
theorem pg_cg {m Q i : Int} : ∀ {l k : List Int} (e : Int), CgL m l k → Cg m (pg Q i l e) (pg Q i k e)
  | [], [], _, _ => Cg.refl _ _
  | _ :: _, _ :: _, _, ⟨h1, h2⟩ => (h1.pow _).mul (pg_cg _ h2)
theorem pg_mul {α : Type} {Q i : Int} (f g : α → Int) : ∀ (l : List α) (e : Int), pg Q i (l.map fun x => f x * g x) e = pg Q i (l.map f) e * pg Q i (l.map g) e
  | [], _ => by simp [pg]
  | x :: l, e => by
    simp only [List.map_cons, pg, pg_mul f g l, Int.mul_pow]
    exact mul4 _ _ _ _
theorem pg_pow {α : Type} {Q i : Int} (f : α → Int) (k : Nat) : ∀ (l : List α) (e : Int), pg Q i (l.map fun x => f x ^ k) e = pg Q i (l.map f) e ^ k
  | [], _ => by simp [pg, Int.one_pow]
  | x :: l, e => by
    simp only [List.map_cons, pg, pg_pow f k l, Int.mul_pow]
    rw [← Int.pow_mul, ← Int.pow_mul, Nat.mul_comm]
theorem pg_ones {α : Type} {Q i : Int} : ∀ (l : List α) (e : Int), pg Q i (l.map fun _ => 1) e = 1
  | [], _ => rfl
  | x :: l, e => by simp [pg, pg_ones l, Int.one_pow]
theorem map_getD {l : List Int} {n : Nat} (h : l.length = n) (d : Int) : (List.range n).map (fun j => l[j]?.getD d) = l := by
  subst h
  refine List.ext_getElem (by simp) fun i h1 h2 => ?_
  have h2 : i < l.length := h2
  simp [List.getElem?_eq_getElem h2]
/-- Rows first, or columns first. -/
theorem pg_either {p : Par} {x y : Int} {n : Nat} : ∀ (M : List (List Int)) (e f : Int), (∀ r ∈ M, r.length = n) →
    pg p.Q y ((List.range n).map fun j => pg p.Q x (colI p M j) e) f = pg p.Q x (M.map fun r => pg p.Q y r f) e
  | [], e, f, _ => pg_ones _ _
  | r :: M, e, f, h => by
    have h1 : ∀ j, pg p.Q x (colI p (r :: M) j) e = (r[j]?.getD (timesI p.P [])) ^ e.toNat * pg p.Q x (colI p M j) (mulI e x p.Q) := fun j => rfl
    simp only [h1]
    rw [pg_mul, pg_pow, map_getD (h r (by simp)), pg_either M _ _ fun r hr => h r (by simp [hr])]
    rfl
theorem wide_eq {n : Nat} : ∀ (M : List (List Int)) (k : Nat), (∀ r ∈ M, r.length = n) → k ≤ n → M ≠ [] → M.foldl (fun k c => max k c.length) k = n
  | [], _, _, _, h => absurd rfl h
  | [r], k, h, hk, _ => by
    have := h r (by simp)
    show max k r.length = n
    omega
  | r :: s :: M, k, h, hk, _ => by
    refine wide_eq (s :: M) _ (fun r hr => h r (by simp [hr])) ?_ (by simp)
    have := h r (by simp)
    show max k r.length ≤ n
    omega
theorem either_law {p : Par} (hm : mayB p.P = true) (M : List (List Int)) (n : Nat) (h : ∀ r ∈ M, r.length = n) (hn : M ≠ []) (x y : Int) : atI p (shareI p (turnedI p M) x) y = atI p (shareI p M y) x := by
  have hw : wideI M = n := wide_eq M 0 h (Nat.zero_le _) hn
  refine atI_of_cg hm ((atI_cg hm _ _).trans (Cg.trans ?_ (atI_cg hm _ _).symm))
  have e1 : shareI p (turnedI p M) x = (List.range n).map fun j => atI p (colI p M j) x := by simp [shareI, turnedI, hw, Function.comp_def]
  rw [e1]
  refine (pg_cg _ (CgL.map (g := fun j => pg p.Q x (colI p M j) (mulI 1 1 p.Q)) _ fun j _ => atI_cg hm _ _)).trans ?_
  rw [pg_either M _ _ h]
  exact (pg_cg _ (CgL.map M fun r _ => atI_cg hm r y)).symm
theorem either_all {p : Par} (hm : mayB p.P = true) (m : List (List (List Int))) (n : Nat) (h : ∀ M ∈ m, M ≠ [] ∧ ∀ r ∈ M, r.length = n) (x y : Int) : shareI p (rowComsI p m x) y = shareI p (colComsI p m y) x := by
  simp only [shareI, rowComsI, colComsI, List.map_map]
  refine List.map_congr_left fun M hM => ?_
  exact either_law hm M n (h M hM).2 (h M hM).1 x y
theorem mat_shape (p : Par) (f : List (List (List Int))) (n k : Nat) (hk : 0 < k) (h : ∀ a ∈ f, a.length = k ∧ ∀ r ∈ a, r.length = n) : (matI p f []).length = f.length ∧ ∀ M ∈ matI p f [], (M ≠ [] ∧ M.length = k) ∧ ∀ r ∈ M, r.length = n := by
  refine ⟨by simp [matI, zipS], fun M hM => ?_⟩
  simp only [matI, zipS, List.map_map, List.mem_map, List.mem_range, List.length_nil, Nat.max_zero, Function.comp] at hM
  obtain ⟨i, hi, rfl⟩ := hM
  obtain ⟨h1, h2⟩ := h f[i] (List.getElem_mem hi)
  have hl : (comsI p (f[i]?.getD []) (([] : List (List (List Int)))[i]?.getD [])).length = k := by simp [comsI, zipS, List.getElem?_eq_getElem hi, h1]
  refine ⟨⟨fun e => by rw [e] at hl; simp at hl; omega, hl⟩, fun r hr => ?_⟩
  simp only [comsI, zipS, List.map_map, List.mem_map, List.mem_range, Function.comp, List.getElem?_eq_getElem hi, Option.getD_some] at hr
  obtain ⟨j, hj, rfl⟩ := hr
  simp only [List.getElem?_nil, Option.getD_none, List.length_nil, Nat.max_zero] at hj ⊢
  have := h2 f[i][j] (List.getElem_mem hj)
  simp [comI, zipU, List.getElem?_eq_getElem hj, this]
end Go.Proofs.YtnjkelojkoeihaaGreatDoor

namespace Go.Proofs.YtnjkelojkoeihaaGreatDoor
open Go Go.RowKit

/-- A list of a matrix that is none. -/
def sqBad (p : Par) (l : List (List Int)) : Bool := !allB p l (wrap64 (p.T + 1)) (wrap64 (p.T + 1))
set_option maxHeartbeats 400000 in
theorem sqOne_any (p : Par) (B : Nat) (v : Value) (l : List (List Int)) (X : Nat → Prop) (w : World) (hp : p.ok) (hb : Bk w B 24 p.cells) (h : Sl (encS encU) X w v l) :
    Calls Tryz.prog 52 #[v, .pointer (some ⟨B, 0, none⟩)] w fun e w' => e = .returned (.bool (sqBad p l)) ∧ w.grownBy w' none := by
  have HC := Lib.hid (fun w' (hw : w.grownBy w' none) => all_any p v l (wrap64 (p.T + 1)) (wrap64 (p.T + 1)) X w' hp (h.kept hw))
  have HG : Hid (w.grownBy w none) := Lib.hid (World.grownBy.refl w none)
  have HGd : Hid (w.grownBy w.drew none) := Lib.hid (grown_drewN' w 1)
  have hc := hb.prule
  obtain ⟨A, c, rfl, _, _⟩ := h.form
  clear hp hb h
  go_enter Tryz.func52, Tryz.ntmps52
  go_wp2_with fail
  refine (HC.out _ (by first | exact HG.out | exact HGd.out)).mono ?_
  rintro e w1 ⟨rfl, hg⟩
  have HG1 := Lib.hid hg
  clear hg
  go_wp2
  go_ret
  exact ⟨rfl, by first | exact HG1.out | exact HGd.out.trans HG1.out⟩
set_option maxHeartbeats 400000 in
theorem indexSq (p : Par) (B : Nat) (v : Value) (l : List (List (List Int))) (X : Nat → Prop) (w : World) (hp : p.ok) (hb : Bk w B 24 p.cells) (h : Sl (encS (encS encU)) X w v l) :
    Calls Tryz.prog 94 #[v, .func (.func 52) #[] #[.pointer (some ⟨B, 0, none⟩)]] w (FoundB (l.any fun x => sqBad p x) w) := by
  have Hhp := Lib.hid hp
  have Hhb := Lib.hid hb
  have H := Lib.hid h
  have hl := h.bound
  obtain ⟨A, c, rfl, _, _⟩ := h.form
  clear h hp hb
  go_enter Tryz.func94, Tryz.ntmps94
  go_wp2_with fail
  go_loopg [8] l.length (fun n s8 wx => ∃ j : Nat, j + n = l.length ∧ s8 = .int .i64 j ∧ Hid (w.grownBy wx none ∧ ∀ i (h : i < l.length), i < j → sqBad p l[i] = false))
  case atStart => exact ⟨0, by omega, rfl, Lib.hid ⟨World.grownBy.refl w none, fun i hi h => absurd h (by omega)⟩⟩
  case round =>
    obtain ⟨j, hj, rfl, HX⟩ := hrel
    cases gk with
    | zero =>
      obtain rfl : j = l.length := by omega
      have HE : Hid (FoundB (l.any fun x => sqBad p x) w (.returned (.int .i64 (-1))) wr) := Lib.hid ⟨-1, rfl, by
        have : (l.any fun x => sqBad p x) = false := by
          rw [List.any_eq_false]
          intro b hb
          obtain ⟨i, hi, rfl⟩ := List.getElem_of_mem hb
          simp [HX.out.2 i hi hi]
        rw [this]
        rfl, ⟨by decide, by decide⟩, HX.out.1⟩
      clear HX
      go_wp2
      go_ret
      exact HE.out
    | succ k =>
      have hjn : (j : Int) < (l.length : Int) := by omega
      have hjN : j < l.length := by omega
      obtain ⟨g, o, c', u, e, _, _, hcu, hu⟩ := (H.out.kept HX.out.1).atS hjN
      injection e with e1 e2 e3
      subst e1 e3
      have HC := Lib.hid (sqOne_any p B u l[j] X wr (Hhp.out) (Hhb.out.grown HX.out.1 (by simp)) hu)
      have HV : Hid (sqBad p l[j] = false ∨ sqBad p l[j] = true) := Lib.hid (by cases sqBad p l[j] <;> simp)
      have HR : Hid (sqBad p l[j] = false → ∀ i (h : i < l.length), i < j + 1 → sqBad p l[i] = false) := Lib.hid (fun h i hi hl => by
        rcases Nat.lt_or_ge i j with h1 | h1
        · exact HX.out.2 i hi h1
        · obtain rfl : i = j := by omega
          exact h)
      have HN : Hid (sqBad p l[j] = true → (l.any fun x => sqBad p x) = true) := Lib.hid (fun h => List.any_eq_true.2 ⟨_, List.getElem_mem hjN, by simp [h]⟩)
      obtain ⟨A7, c7, e7, _, _⟩ := hu.form
      generalize l[j].length = n7 at e7
      subst e7
      have HG := Lib.hid HX.out.1
      clear HX hu e2
      generalize sqBad p l[j] = b at *
      generalize l[j] = x at *
      rcases HV.out with rfl | rfl
      · go_wp2_with fail
        refine HC.out.mono ?_
        rintro e w1 ⟨rfl, hg⟩
        have HG1 := Lib.hid (HG.out.trans hg)
        clear hg
        go_wp2
        go_roundg k
        case measure => omega
        case rel => exact ⟨j + 1, by omega, by go_num, Lib.hid ⟨HG1.out, HR.out (by simp)⟩⟩
      · have HE : Hid (∀ w1, w.grownBy w1 none → FoundB (l.any fun x => sqBad p x) w (.returned (.int .i64 j)) w1) := Lib.hid (fun w1 hg => ⟨j, rfl, by rw [HN.out rfl]; simp, ⟨by omega, by omega⟩, hg⟩)
        go_wp2_with fail
        refine HC.out.mono ?_
        rintro e w1 ⟨rfl, hg⟩
        have HG1 := Lib.hid (HG.out.trans hg)
        clear hg
        go_wp2
        go_ret
        exact HE.out _ HG1.out
set_option maxHeartbeats 400000 in
theorem containsSq (p : Par) (B : Nat) (v : Value) (l : List (List (List Int))) (X : Nat → Prop) (w : World) (hp : p.ok) (hb : Bk w B 24 p.cells) (h : Sl (encS (encS encU)) X w v l) :
    Calls Tryz.prog 51 #[v, .func (.func 52) #[] #[.pointer (some ⟨B, 0, none⟩)]] w fun e w' => e = .returned (.bool (l.any fun x => sqBad p x)) ∧ w.grownBy w' none := by
  have HC := Lib.hid (indexSq p B v l X w hp hb h)
  obtain ⟨A, c, rfl, _, _⟩ := h.form
  clear h hp hb
  go_enter Tryz.func51, Tryz.ntmps51
  go_wp2_with fail
  refine HC.out.mono ?_
  rintro e w1 ⟨r, rfl, hr, _, hg⟩
  have HG := Lib.hid hg
  have HR := Lib.hid hr
  clear hg hr
  go_wp2
  go_ret
  exact ⟨ret_bool HR.out, HG.out⟩
/-- Square: as many lists as there are secrets, each a square of numbers of the group. -/
def squareB (p : Par) (m : List (List (List Int))) : Bool := decide ((m.length : Int) = secretsI p) && !m.any fun x => sqBad p x
set_option maxHeartbeats 400000 in
theorem square_any (p : Par) (v : Value) (m : List (List (List Int))) (X : Nat → Prop) (w : World) (hp : p.ok) (h : Sl (encS (encS encU)) X w v m) :
    Calls Tryz.prog 9 #[p.v, v] w fun e w' => e = .returned (.bool (squareB p m)) ∧ w.grownBy w' none := by
  have HP := Lib.hid hp
  have H := Lib.hid h
  have HB : Hid (Bk (w.alloc (.cells p.cells 24)) w.heap.size 24 p.cells) := Lib.hid (Bk.new w _ _)
  have HG : Hid (w.grownBy (w.alloc (.cells p.cells 24)) none) := Lib.hid (World.grownBy_alloc w _ none)
  have HS := Lib.hid (secrets_any p)
  obtain ⟨A, c, rfl, _, _⟩ := h.form
  clear hp h
  by_cases hne : (m.length : Int) = secretsI p
  · have HR : Hid (squareB p m = !m.any fun x => sqBad p x) := Lib.hid (by simp [squareB, hne])
    have hd : ((m.length : Int) == secretsI p) = true := by simp [hne]
    go_enter Tryz.func9, Tryz.ntmps9
    go_wp2_with fail
    refine (HS.out _).mono ?_
    rintro e w1 ⟨rfl, hg⟩
    have HG1 := hidTrans hg HG
    have HB1 := bkGrown hg HB
    clear hg
    go_wp2_with fail
    refine (containsSq p w.heap.size _ m X w1 HP.out HB1.out (H.out.kept HG1.out)).mono ?_
    rintro e w2 ⟨rfl, hg⟩
    have HG2 := hidTrans hg HG1
    clear hg
    go_wp2
    go_ret
    exact ⟨ret_bool HR.out.symm, HG2.out⟩
  · have HR : Hid (squareB p m = false) := Lib.hid (by simp [squareB, hne])
    have hd : ((m.length : Int) == secretsI p) = false := by simp [hne]
    go_enter Tryz.func9, Tryz.ntmps9
    go_wp2_with fail
    refine (HS.out _).mono ?_
    rintro e w1 ⟨rfl, hg⟩
    have HG1 := hidTrans hg HG
    clear hg
    go_wp2
    go_ret
    exact ⟨ret_bool HR.out.symm, HG1.out⟩
end Go.Proofs.YtnjkelojkoeihaaGreatDoor

namespace Go.Proofs.YtnjkelojkoeihaaGreatDoor
open Go Go.RowKit

/-- The value of a polynomial, over the integers. -/
def polyZ (x : Int) : List Int → Int
  | [] => 0
  | y :: l => y + x * polyZ x l
theorem evalI_cons (q : Int) (y : Int) (c : List Int) (x : Int) : evalI q (y :: c) x = addI (mulI (evalI q c x) x q) y q := by simp [evalI, evalGo]
theorem evalI_bd {q : Int} (hq : mayB q = true) (c : List Int) (x : Int) : 0 ≤ evalI q c x ∧ evalI q c x < q := by
  have h := (may_bds hq).1
  cases c with
  | nil => exact ⟨Int.le_refl _, h⟩
  | cons y c =>
    rw [evalI_cons, addI_yes _ _ _ hq]
    exact ⟨Int.emod_nonneg _ (by omega), Int.emod_lt_of_pos _ h⟩
theorem evalI_cg {q : Int} (hq : mayB q = true) (x : Int) : ∀ (c : List Int), Cg q (evalI q c x) (polyZ x c)
  | [] => Cg.refl _ _
  | y :: c => by
    rw [evalI_cons, addI_yes _ _ _ hq, mulI_yes _ _ _ hq]
    refine (Cg.mod _ _).trans (((Cg.mod _ _).trans ((evalI_cg hq x c).mul_right x)).add (Cg.refl _ y) |>.trans (Cg.of_eq ?_))
    show polyZ x c * x + y = y + x * polyZ x c
    rw [Int.mul_comm, Int.add_comm]
theorem valGo_cg {q x : Int} (hq : mayB q = true) : ∀ (l : List (Int × Int)) (v : Int × Int) (e : Int), Cg q (valGo q x l v e).1 (v.1 + e * polyZ x (l.map Prod.fst)) ∧ Cg q (valGo q x l v e).2 (v.2 + e * polyZ x (l.map Prod.snd))
  | [], v, e => ⟨Cg.of_eq (by simp [valGo, polyZ]), Cg.of_eq (by simp [valGo, polyZ])⟩
  | y :: l, v, e => by
    obtain ⟨h1, h2⟩ := valGo_cg hq l (addI v.1 (mulI y.1 e q) q, addI v.2 (mulI y.2 e q) q) (mulI e x q)
    have key : ∀ (a b s : Int), Cg q (addI a (mulI b e q) q + mulI e x q * s) (a + e * (b + x * s)) := fun a b s => by
      rw [addI_yes _ _ _ hq, mulI_yes _ _ _ hq, mulI_yes _ _ _ hq]
      refine (((Cg.mod _ _).trans ((Cg.refl _ a).add (Cg.mod _ _))).add ((Cg.mod _ _).mul_right s)).trans (Cg.of_eq ?_)
      rw [Int.mul_add, Int.mul_comm b e, Int.mul_assoc]
      omega
    exact ⟨h1.trans (key _ _ _), h2.trans (key _ _ _)⟩
theorem valGo_bd {q x : Int} (hq : mayB q = true) : ∀ (l : List (Int × Int)) (v : Int × Int) (e : Int), 0 ≤ v.1 ∧ v.1 < q → 0 ≤ v.2 ∧ v.2 < q → (0 ≤ (valGo q x l v e).1 ∧ (valGo q x l v e).1 < q) ∧ 0 ≤ (valGo q x l v e).2 ∧ (valGo q x l v e).2 < q
  | [], v, e, h1, h2 => ⟨h1, h2⟩
  | y :: l, v, e, _, _ => by
    have h := (may_bds hq).1
    have k : ∀ a b : Int, 0 ≤ addI a b q ∧ addI a b q < q := fun a b => by
      rw [addI_yes _ _ _ hq]
      exact ⟨Int.emod_nonneg _ (by omega), Int.emod_lt_of_pos _ h⟩
    exact valGo_bd hq l _ _ (k _ _) (k _ _)
theorem val_eval {q x : Int} (hq : mayB q = true) (l : List (Int × Int)) : valGo q x l (0, 0) 1 = (evalI q (l.map Prod.fst) x, evalI q (l.map Prod.snd) x) := by
  have h := (may_bds hq).1
  obtain ⟨h1, h2⟩ := valGo_cg (x := x) hq l (0, 0) 1
  obtain ⟨b1, b2⟩ := valGo_bd (x := x) hq l (0, 0) 1 ⟨Int.le_refl _, h⟩ ⟨Int.le_refl _, h⟩
  have e1 := evalI_bd hq (l.map Prod.fst) x
  have e2 := evalI_bd hq (l.map Prod.snd) x
  rw [show (0 : Int) + 1 * polyZ x (l.map Prod.fst) = polyZ x (l.map Prod.fst) by omega] at h1
  rw [show (0 : Int) + 1 * polyZ x (l.map Prod.snd) = polyZ x (l.map Prod.snd) by omega] at h2
  exact Prod.ext ((h1.trans (evalI_cg hq x _).symm).eq b1.1 b1.2 e1.1 e1.2) ((h2.trans (evalI_cg hq x _).symm).eq b2.1 b2.2 e2.1 e2.2)
/-- What At tells of commitments. -/
theorem at_eval {p : Par} (h : Good p) (i : Int) (hi : 0 ≤ i) (l : List (Int × Int)) (hl : ∀ y ∈ l, 0 ≤ y.1 ∧ 0 ≤ y.2) : atI p (l.map (commitI p)) i = commitI p (evalI p.Q (l.map Prod.fst) i, evalI p.Q (l.map Prod.snd) i) := by
  rw [at_commits h i hi l hl, val_eval h.Q]
/-- A list of n lists of n numbers, none below 0. -/
def Sq (n : Nat) (F : List (List Int)) : Prop := F.length = n ∧ ∀ r ∈ F, r.length = n ∧ ∀ y ∈ r, 0 ≤ y
theorem comI_eq (p : Par) (a b : List Int) (n : Nat) (ha : a.length = n) (hb : b.length = n) : comI p (a, b) = (List.range n).map fun j => commitI p (a[j]?.getD 0, b[j]?.getD 0) := by
  simp [comI, zipU, ha, hb, Function.comp_def]
theorem comsI_eq (p : Par) {F B : List (List Int)} {n : Nat} (hF : F.length = n) (hB : B.length = n) : comsI p F B = (List.range n).map fun i => comI p (F[i]?.getD [], B[i]?.getD []) := by
  simp [comsI, zipS, hF, hB, Function.comp_def]
theorem Sq.row {n : Nat} {F : List (List Int)} (h : Sq n F) {i : Nat} (hi : i < n) : ∃ r, F[i]? = some r ∧ r.length = n ∧ ∀ y ∈ r, 0 ≤ y := by
  have hl : i < F.length := by rw [h.1]; exact hi
  exact ⟨F[i], List.getElem?_eq_getElem hl, h.2 _ (List.getElem_mem hl)⟩
theorem Sq.nn {n : Nat} {F : List (List Int)} (h : Sq n F) (i j : Nat) : 0 ≤ (F[i]?.getD [])[j]?.getD 0 := by
  by_cases hi : i < n
  · obtain ⟨r, hr, hl, hy⟩ := h.row hi
    rw [hr]
    by_cases hj : j < r.length
    · simp only [Option.getD_some, List.getElem?_eq_getElem hj]
      exact hy _ (List.getElem_mem hj)
    · simp [List.getElem?_eq_none (show r.length ≤ j by omega)]
  · simp [List.getElem?_eq_none (show F.length ≤ i by rw [h.1]; omega)]
theorem colZ_range {n : Nat} {F : List (List Int)} (h : F.length = n) (j : Nat) : colZ F j = (List.range n).map fun i => (F[i]?.getD [])[j]?.getD 0 := by
  subst h
  refine List.ext_getElem (by simp [colZ]) fun i h1 h2 => ?_
  have hi : i < F.length := by simpa [colZ] using h1
  simp [colZ, List.getElem?_eq_getElem hi]
theorem wide_sq {n : Nat} (hn : 0 < n) {F : List (List Int)} (h : Sq n F) : wideI F = n := wide_eq F 0 (fun r hr => (h.2 r hr).1) (Nat.zero_le _) (by rintro rfl; have := h.1; simp at this; omega)
theorem coms_rect {p : Par} {F B : List (List Int)} {n : Nat} (hF : Sq n F) (hB : Sq n B) : (comsI p F B).length = n ∧ ∀ r ∈ comsI p F B, r.length = n := by
  rw [comsI_eq p hF.1 hB.1]
  refine ⟨by simp, fun r hr => ?_⟩
  obtain ⟨i, hi, rfl⟩ := List.mem_map.1 hr
  obtain ⟨a, ha, hal, _⟩ := hF.row (List.mem_range.1 hi)
  obtain ⟨b, hb, hbl, _⟩ := hB.row (List.mem_range.1 hi)
  rw [ha, hb]
  simp [comI, zipU, hal, hbl]
theorem rows_law {p : Par} (h : Good p) {n : Nat} (hn : 0 < n) {F B : List (List Int)} (hF : Sq n F) (hB : Sq n B) (x : Int) (hx : 0 ≤ x) : shareI p (turnedI p (comsI p F B)) x = comI p (rowI p.Q F x, rowI p.Q B x) := by
  obtain ⟨hl, hr⟩ := coms_rect (p := p) hF hB
  have hw : wideI (comsI p F B) = n := wide_eq _ 0 hr (Nat.zero_le _) (by intro e; rw [e] at hl; simp at hl; omega)
  rw [comI_eq p _ _ n (by simp [rowI, wide_sq hn hF]) (by simp [rowI, wide_sq hn hB])]
  simp only [shareI, turnedI, hw, List.map_map]
  refine List.map_congr_left fun j hj => ?_
  have hjn := List.mem_range.1 hj
  simp only [Function.comp]
  have e1 : colI p (comsI p F B) j = ((List.range n).map fun i => ((F[i]?.getD [])[j]?.getD 0, (B[i]?.getD [])[j]?.getD 0)).map (commitI p) := by
    rw [comsI_eq p hF.1 hB.1]
    simp only [colI, List.map_map]
    refine List.map_congr_left fun i hi => ?_
    obtain ⟨a, ha, hal, _⟩ := hF.row (List.mem_range.1 hi)
    obtain ⟨b, hb, hbl, _⟩ := hB.row (List.mem_range.1 hi)
    simp only [Function.comp, ha, hb, Option.getD_some]
    rw [comI_eq p a b n hal hbl]
    simp [hjn]
  rw [e1, at_eval h x hx _ (fun y hy => by
    obtain ⟨i, _, rfl⟩ := List.mem_map.1 hy
    exact ⟨hF.nn i j, hB.nn i j⟩)]
  simp only [List.map_map, Function.comp_def]
  rw [← colZ_range hF.1 j, ← colZ_range hB.1 j]
  simp [rowI, wide_sq hn hF, wide_sq hn hB, hjn]
theorem cols_law {p : Par} (h : Good p) {n : Nat} {F B : List (List Int)} (hF : Sq n F) (hB : Sq n B) (y : Int) (hy : 0 ≤ y) : shareI p (comsI p F B) y = comI p (colV p.Q F y, colV p.Q B y) := by
  rw [comI_eq p _ _ n (by simp [colV, hF.1]) (by simp [colV, hB.1]), comsI_eq p hF.1 hB.1]
  simp only [shareI, List.map_map]
  refine List.map_congr_left fun i hi => ?_
  obtain ⟨a, ha, hal, han⟩ := hF.row (List.mem_range.1 hi)
  obtain ⟨b, hb, hbl, hbn⟩ := hB.row (List.mem_range.1 hi)
  simp only [Function.comp, ha, hb, Option.getD_some]
  have e1 : comI p (a, b) = ((List.range n).map fun j => (a[j]?.getD 0, b[j]?.getD 0)).map (commitI p) := by
    rw [comI_eq p a b n hal hbl, List.map_map]
    rfl
  rw [e1, at_eval h y hy _ (fun z hz => by
    obtain ⟨j, hj, rfl⟩ := List.mem_map.1 hz
    have h1 := List.mem_range.1 hj
    rw [List.getElem?_eq_getElem (by omega), List.getElem?_eq_getElem (by omega)]
    exact ⟨han _ (List.getElem_mem _), hbn _ (List.getElem_mem _)⟩)]
  simp only [List.map_map, Function.comp_def]
  rw [map_getD hal, map_getD hbl]
  simp [colV, ha, hb]
theorem is_commit {p : Par} (h : Good p) (x : Int × Int) (_x1 : 0 ≤ x.1) (_x2 : 0 ≤ x.2) : isB p (commitI p x) = true := by
  have hP := may_bds h.P
  have hP2 := h.P2
  have e := commit_eq p x h.P
  have h0 : 0 ≤ commitI p x := by rw [e]; exact Int.emod_nonneg _ (by omega)
  have h1 : commitI p x < p.P := by rw [e]; exact Int.emod_lt_of_pos _ (by omega)
  have hc : Cg p.P (commitI p x ^ p.Q.toNat) 1 := by
    refine ((commit_cg p x h.P).pow _).trans ?_
    rw [Int.mul_pow, ← Int.pow_mul, ← Int.pow_mul, Nat.mul_comm x.1.toNat, Nat.mul_comm x.2.toNat, Int.pow_mul, Int.pow_mul]
    exact ((h.G.pow _).mul (h.H.pow _)).trans (Cg.of_eq (by rw [Int.one_pow, Int.one_pow]; rfl))
  have hp : powI (commitI p x) p.Q p.P = 1 := by
    rw [powI_yes _ _ _ h.P]
    unfold Cg at hc
    rw [hc, Int.emod_eq_of_lt (by decide) (by omega)]
  have hne : commitI p x ≠ 0 := by
    intro e0
    rw [e0] at hc
    have hQ : p.Q.toNat ≠ 0 := by have := h.Q2; omega
    rw [Int.zero_pow hQ] at hc
    unfold Cg at hc
    rw [Int.emod_eq_of_lt (a := 1) (by decide) (by omega)] at hc
    simp at hc
  simp only [isB, hp, Bool.and_eq_true, decide_eq_true_eq, beq_self_eq_true, and_true]
  omega
theorem square_coms {p : Par} (h : Good p) {n S : Nat} (hn : p.T + 1 = (n : Int)) (hS : secretsI p = (S : Int)) {f b : List (List (List Int))} (hf : f.length = S ∧ ∀ F ∈ f, Sq n F) (hb : b.length = S ∧ ∀ B ∈ b, Sq n B) : squareB p (matI p f b) = true := by
  have hw : wrap64 (p.T + 1) = (n : Int) := by have := h.T; unfold wrap64; omega
  have hl : (matI p f b).length = S := by simp [matI, zipS, hf.1, hb.1]
  simp only [squareB, hl, hS, decide_true, Bool.true_and, Bool.not_eq_true']
  rw [List.any_eq_false]
  intro M hM
  simp only [matI, zipS, List.map_map, hf.1, hb.1, Nat.max_self, List.mem_map, List.mem_range, Function.comp] at hM
  obtain ⟨s, hs, rfl⟩ := hM
  have e1 : f[s]? = some f[s] := List.getElem?_eq_getElem (by omega)
  have e2 : b[s]? = some b[s] := List.getElem?_eq_getElem (by omega)
  have hF : Sq n f[s] := hf.2 _ (List.getElem_mem _)
  have hB : Sq n b[s] := hb.2 _ (List.getElem_mem _)
  simp only [e1, e2, Option.getD_some]
  obtain ⟨hl, hr⟩ := coms_rect (p := p) hF hB
  simp only [sqBad, allB, hw, hl, decide_true, Bool.true_and, Bool.not_not]
  simp only [Bool.not_eq_true, List.any_eq_false]
  intro r hr'
  simp only [rowBad, hr r hr', ne_eq, not_true_eq_false, decide_false, Bool.false_or, List.any_eq_false, Bool.not_eq_eq_eq_not, Bool.not_true]
  intro c hc
  rw [comsI_eq p hF.1 hB.1] at hr'
  obtain ⟨i, hi, rfl⟩ := List.mem_map.1 hr'
  obtain ⟨a, ha, hal, han⟩ := hF.row (List.mem_range.1 hi)
  obtain ⟨d, hd, hdl, hdn⟩ := hB.row (List.mem_range.1 hi)
  rw [ha, hd] at hc
  simp only [Option.getD_some] at hc
  rw [comI_eq p a d n hal hdl] at hc
  obtain ⟨j, hj, rfl⟩ := List.mem_map.1 hc
  have h1 := List.mem_range.1 hj
  rw [List.getElem?_eq_getElem (by omega), List.getElem?_eq_getElem (by omega)]
  rw [Option.getD_some, Option.getD_some, is_commit h (a[j], d[j]) (han _ (List.getElem_mem _)) (hdn _ (List.getElem_mem _))]
  simp
theorem rows_all {p : Par} (h : Good p) {n S : Nat} (hn : 0 < n) {f b : List (List (List Int))} (hf : f.length = S ∧ ∀ F ∈ f, Sq n F) (hb : b.length = S ∧ ∀ B ∈ b, Sq n B) (x : Int) (hx : 0 ≤ x) :
    rowComsI p (matI p f b) x = comsI p (f.map fun F => rowI p.Q F x) (b.map fun B => rowI p.Q B x) ∧ colComsI p (matI p f b) x = comsI p (f.map fun F => colV p.Q F x) (b.map fun B => colV p.Q B x) := by
  rw [comsI_eq p (n := S) (by simp [hf.1]) (by simp [hb.1]), comsI_eq p (n := S) (by simp [hf.1]) (by simp [hb.1])]
  simp only [rowComsI, colComsI, matI, zipS, List.map_map, hf.1, hb.1, Nat.max_self]
  refine ⟨List.map_congr_left fun s hs => ?_, List.map_congr_left fun s hs => ?_⟩
  all_goals
    have hs := List.mem_range.1 hs
    have e1 : f[s]? = some f[s] := List.getElem?_eq_getElem (by omega)
    have e2 : b[s]? = some b[s] := List.getElem?_eq_getElem (by omega)
    have hF : Sq n f[s] := hf.2 _ (List.getElem_mem _)
    have hB : Sq n b[s] := hb.2 _ (List.getElem_mem _)
    simp only [Function.comp, List.getElem?_map, e1, e2, Option.getD_some, Option.map_some]
  · exact rows_law h hn hF hB x hx
  · exact cols_law h hF hB x hx
end Go.Proofs.YtnjkelojkoeihaaGreatDoor

namespace Go.Proofs.YtnjkelojkoeihaaGreatDoor
open Go.RowKit

def Quietly (w : World) (v : Value) (e : Ending) (w' : World) : Prop := e = .returned v ∧ ∃ n, w' = w.drewN n

set_option maxHeartbeats 400000 in
theorem nums_eq (v1 v2 : Value) (xs : List Int) (X Y : Nat → Prop) (w : World) (h1 : Sl encU X w v1 xs) (h2 : Sl encU Y w v2 xs) :
    Calls Tryz.prog 18 #[v1, v2] w (Quietly w (.bool true)) := by
  have H1 := Lib.hid h1
  have H2 := Lib.hid h2
  obtain ⟨A1, c1, rfl, hc1, hc2⟩ := h1.form
  obtain ⟨A2, c2, rfl, _, _⟩ := h2.form
  clear h1 h2
  have HST : Hid (∃ n, w = w.drewN n) := Lib.hid ⟨0, rfl⟩
  go_enter Tryz.func18, Tryz.ntmps18
  go_wp2_with fail
  go_loopg [5] xs.length (fun g s5 wx => ∃ j : Nat, j + g = xs.length ∧ s5 = .int .i64 j ∧ Hid (∃ n, wx = w.drewN n))
  case atStart => exact ⟨0, by omega, rfl, HST⟩
  case round =>
    obtain ⟨j, hj, rfl, HX⟩ := hrel
    obtain ⟨n0, rfl⟩ := HX.out
    cases gk with
    | zero =>
      obtain rfl : j = xs.length := by omega
      clear HX HST
      go_wp2
      go_ret
      exact ⟨rfl, _, rfl⟩
    | succ m =>
      have hjn : (j : Int) < (xs.length : Int) := by omega
      have hj0 : (0 : Int) ≤ (j : Int) := by omega
      have hjN : j < xs.length := by omega
      obtain ⟨g1, o1, c1', e1, _, _, a1, u1⟩ := H1.out.atU hjN
      injection e1 with e11 e12 e13
      subst e11 e13
      obtain ⟨g2, o2, c2', e2, _, _, a2, _⟩ := H2.out.atU hjN
      injection e2 with e21 e22 e23
      subst e21 e23
      clear HX HST e12 e22
      generalize xs[j] = y at *
      go_wp2_with fail
      go_quiet (fail)
      go_wp2_with fail
      go_roundg m
      case measure => omega
      case rel => exact ⟨j + 1, by omega, by go_num, Lib.hid ⟨_, rfl⟩⟩

set_option maxHeartbeats 400000 in
theorem lists_eq (v1 v2 : Value) (xs : List (List Int)) (X Y : Nat → Prop) (w : World) (h1 : Sl (encS encU) X w v1 xs) (h2 : Sl (encS encU) Y w v2 xs) :
    Calls Tryz.prog 28 #[v1, v2] w (Quietly w (.bool true)) := by
  have H1 := Lib.hid h1
  have H2 := Lib.hid h2
  obtain ⟨A1, c1, rfl, hc1, hc2⟩ := h1.form
  obtain ⟨A2, c2, rfl, _, _⟩ := h2.form
  clear h1 h2
  have HST : Hid (∃ n, w = w.drewN n) := Lib.hid ⟨0, rfl⟩
  go_enter Tryz.func28, Tryz.ntmps28
  go_wp2_with fail
  go_loopg [5] xs.length (fun g s5 wx => ∃ j : Nat, j + g = xs.length ∧ s5 = .int .i64 j ∧ Hid (∃ n, wx = w.drewN n))
  case atStart => exact ⟨0, by omega, rfl, HST⟩
  case round =>
    obtain ⟨j, hj, rfl, HX⟩ := hrel
    obtain ⟨n0, rfl⟩ := HX.out
    cases gk with
    | zero =>
      obtain rfl : j = xs.length := by omega
      clear HX HST
      go_wp2
      go_ret
      exact ⟨rfl, _, rfl⟩
    | succ m =>
      have hjn : (j : Int) < (xs.length : Int) := by omega
      have hj0 : (0 : Int) ≤ (j : Int) := by omega
      have hjN : j < xs.length := by omega
      obtain ⟨g1, o1, c1', t1, e1, _, _, a1, k1⟩ := H1.out.atS hjN
      injection e1 with e11 e12 e13
      subst e11 e13
      obtain ⟨g2, o2, c2', t2, e2, _, _, a2, k2⟩ := H2.out.atS hjN
      injection e2 with e21 e22 e23
      subst e21 e23
      have HN := Lib.hid (fun k => nums_eq t1 t2 xs[j] X Y (w.drewN k) (k1.kept (grownBy_drewN (World.grownBy.refl w none) k)) (k2.kept (grownBy_drewN (World.grownBy.refl w none) k)))
      obtain ⟨B1, d1, rfl, _, _⟩ := k1.form
      obtain ⟨B2, d2, rfl, _, _⟩ := k2.form
      clear HX HST e12 e22 k1 k2
      generalize xs[j].length = n1 at *
      go_wp2_with fail
      go_quiet ((go_at_call 18; exact quiet_add (HN.out _)))
      go_wp2_with fail
      go_roundg m
      case measure => omega
      case rel => exact ⟨j + 1, by omega, by go_num, Lib.hid ⟨_, rfl⟩⟩

set_option maxHeartbeats 400000 in
theorem mats_eq (v1 v2 : Value) (xs : List (List (List Int))) (X Y : Nat → Prop) (w : World) (h1 : Sl (encS (encS encU)) X w v1 xs) (h2 : Sl (encS (encS encU)) Y w v2 xs) :
    Calls Tryz.prog 22 #[v1, v2] w (Quietly w (.bool true)) := by
  have H1 := Lib.hid h1
  have H2 := Lib.hid h2
  obtain ⟨A1, c1, rfl, hc1, hc2⟩ := h1.form
  obtain ⟨A2, c2, rfl, _, _⟩ := h2.form
  clear h1 h2
  have HST : Hid (∃ n, w = w.drewN n) := Lib.hid ⟨0, rfl⟩
  go_enter Tryz.func22, Tryz.ntmps22
  go_wp2_with fail
  go_loopg [5] xs.length (fun g s5 wx => ∃ j : Nat, j + g = xs.length ∧ s5 = .int .i64 j ∧ Hid (∃ n, wx = w.drewN n))
  case atStart => exact ⟨0, by omega, rfl, HST⟩
  case round =>
    obtain ⟨j, hj, rfl, HX⟩ := hrel
    obtain ⟨n0, rfl⟩ := HX.out
    cases gk with
    | zero =>
      obtain rfl : j = xs.length := by omega
      clear HX HST
      go_wp2
      go_ret
      exact ⟨rfl, _, rfl⟩
    | succ m =>
      have hjn : (j : Int) < (xs.length : Int) := by omega
      have hj0 : (0 : Int) ≤ (j : Int) := by omega
      have hjN : j < xs.length := by omega
      obtain ⟨g1, o1, c1', t1, e1, _, _, a1, k1⟩ := H1.out.atS hjN
      injection e1 with e11 e12 e13
      subst e11 e13
      obtain ⟨g2, o2, c2', t2, e2, _, _, a2, k2⟩ := H2.out.atS hjN
      injection e2 with e21 e22 e23
      subst e21 e23
      have HN := Lib.hid (fun k => lists_eq t1 t2 xs[j] X Y (w.drewN k) (k1.kept (grownBy_drewN (World.grownBy.refl w none) k)) (k2.kept (grownBy_drewN (World.grownBy.refl w none) k)))
      obtain ⟨B1, d1, rfl, _, _⟩ := k1.form
      obtain ⟨B2, d2, rfl, _, _⟩ := k2.form
      clear HX HST e12 e22 k1 k2
      generalize xs[j].length = n1 at *
      go_wp2_with fail
      go_quiet ((go_at_call 28; exact quiet_add (HN.out _)))
      go_wp2_with fail
      go_roundg m
      case measure => omega
      case rel => exact ⟨j + 1, by omega, by go_num, Lib.hid ⟨_, rfl⟩⟩

set_option maxHeartbeats 400000 in
theorem same_eq (v1 v2 : Value) (xs : List (Int × Int)) (X Y : Nat → Prop) (w : World) (h1 : Sl encP X w v1 xs) (h2 : Sl encP Y w v2 xs) :
    Calls Tryz.prog 13 #[v1, v2] w (Quietly w (.bool true)) := by
  have H1 := Lib.hid h1
  have H2 := Lib.hid h2
  obtain ⟨A1, c1, rfl, hc1, hc2⟩ := h1.form
  obtain ⟨A2, c2, rfl, _, _⟩ := h2.form
  clear h1 h2
  have HST : Hid (∃ n, w = w.drewN n) := Lib.hid ⟨0, rfl⟩
  go_enter Tryz.func13, Tryz.ntmps13
  go_wp2_with fail
  go_loopg [5] xs.length (fun g s5 wx => ∃ j : Nat, j + g = xs.length ∧ s5 = .int .i64 j ∧ Hid (∃ n, wx = w.drewN n))
  case atStart => exact ⟨0, by omega, rfl, HST⟩
  case round =>
    obtain ⟨j, hj, rfl, HX⟩ := hrel
    obtain ⟨n0, rfl⟩ := HX.out
    cases gk with
    | zero =>
      obtain rfl : j = xs.length := by omega
      clear HX HST
      go_wp2
      go_ret
      exact ⟨rfl, _, rfl⟩
    | succ m =>
      have hjn : (j : Int) < (xs.length : Int) := by omega
      have hj0 : (0 : Int) ≤ (j : Int) := by omega
      have hjN : j < xs.length := by omega
      obtain ⟨g1, o1, c1', e1, _, _, a1, b1, u1, u2⟩ := H1.out.atP hjN
      injection e1 with e11 e12 e13
      subst e11 e13
      obtain ⟨g2, o2, c2', e2, _, _, a2, b2, _, _⟩ := H2.out.atP hjN
      injection e2 with e21 e22 e23
      subst e21 e23
      clear HX HST e12 e22
      generalize xs[j].1 = y1 at *
      generalize xs[j].2 = y2 at *
      go_wp2_with fail
      go_quiet (fail)
      go_wp2_with fail
      go_roundg m
      case measure => omega
      case rel => exact ⟨j + 1, by omega, by go_num, Lib.hid ⟨_, rfl⟩⟩

set_option maxHeartbeats 400000 in
theorem shares_eq (v1 v2 : Value) (xs : List (List (Int × Int))) (X Y : Nat → Prop) (w : World) (h1 : Sl (encS encP) X w v1 xs) (h2 : Sl (encS encP) Y w v2 xs) :
    Calls Tryz.prog 23 #[v1, v2] w (Quietly w (.bool true)) := by
  have H1 := Lib.hid h1
  have H2 := Lib.hid h2
  obtain ⟨A1, c1, rfl, hc1, hc2⟩ := h1.form
  obtain ⟨A2, c2, rfl, _, _⟩ := h2.form
  clear h1 h2
  have HST : Hid (∃ n, w = w.drewN n) := Lib.hid ⟨0, rfl⟩
  go_enter Tryz.func23, Tryz.ntmps23
  go_wp2_with fail
  go_loopg [5] xs.length (fun g s5 wx => ∃ j : Nat, j + g = xs.length ∧ s5 = .int .i64 j ∧ Hid (∃ n, wx = w.drewN n))
  case atStart => exact ⟨0, by omega, rfl, HST⟩
  case round =>
    obtain ⟨j, hj, rfl, HX⟩ := hrel
    obtain ⟨n0, rfl⟩ := HX.out
    cases gk with
    | zero =>
      obtain rfl : j = xs.length := by omega
      clear HX HST
      go_wp2
      go_ret
      exact ⟨rfl, _, rfl⟩
    | succ m =>
      have hjn : (j : Int) < (xs.length : Int) := by omega
      have hj0 : (0 : Int) ≤ (j : Int) := by omega
      have hjN : j < xs.length := by omega
      obtain ⟨g1, o1, c1', t1, e1, _, _, a1, k1⟩ := H1.out.atS hjN
      injection e1 with e11 e12 e13
      subst e11 e13
      obtain ⟨g2, o2, c2', t2, e2, _, _, a2, k2⟩ := H2.out.atS hjN
      injection e2 with e21 e22 e23
      subst e21 e23
      have HN := Lib.hid (fun k => same_eq t1 t2 xs[j] X Y (w.drewN k) (k1.kept (grownBy_drewN (World.grownBy.refl w none) k)) (k2.kept (grownBy_drewN (World.grownBy.refl w none) k)))
      obtain ⟨B1, d1, rfl, _, _⟩ := k1.form
      obtain ⟨B2, d2, rfl, _, _⟩ := k2.form
      clear HX HST e12 e22 k1 k2
      generalize xs[j].length = n1 at *
      go_wp2_with fail
      go_quiet ((go_at_call 13; exact quiet_add (HN.out _)))
      go_wp2_with fail
      go_roundg m
      case measure => omega
      case rel => exact ⟨j + 1, by omega, by go_num, Lib.hid ⟨_, rfl⟩⟩

end Go.Proofs.YtnjkelojkoeihaaGreatDoor

namespace Go.Proofs.YtnjkelojkoeihaaGreatDoor
open Go Go.RowKit

end Go.Proofs.YtnjkelojkoeihaaGreatDoor

namespace Go.Proofs.YtnjkelojkoeihaaGreatDoor
open Go Go.RowKit

def invF (a m : Int) : Option Nat := (List.range m.toNat).find? fun x => (a * (x : Int)) % m == 1 % m
theorem invF_some {a m : Int} {x : Nat} (h : invF a m = some x) : (x : Int) < m ∧ Cg m (a * x) 1 := by
  have h1 := List.find?_some h
  have h2 := List.mem_of_find?_eq_some h
  have h3 := List.mem_range.1 h2
  refine ⟨by omega, ?_⟩
  simp at h1
  exact h1
theorem hasInv_invF {a m : Int} (hm : 0 < m) : HasInv a m ↔ (invF a m).isSome = true := by
  constructor
  · rintro ⟨x, h1, h2, h3⟩
    rw [Option.isSome_iff_ne_none]
    intro hn
    have := List.find?_eq_none.1 hn x.toNat (List.mem_range.2 (by omega))
    rw [Int.toNat_of_nonneg h1] at this
    simp at this
    exact this h3
  · intro h
    obtain ⟨x, hx⟩ := Option.isSome_iff_exists.1 h
    obtain ⟨h1, h2⟩ := invF_some hx
    exact ⟨x, by omega, h1, h2⟩
theorem invI_invF {a m : Int} (hm : 0 < m) : invI a m = ((invF a m).getD 0 : Nat) := by
  cases h : invF a m with
  | none =>
    have : ¬ HasInv a m := by rw [hasInv_invF hm, h]; simp
    simp [invI, this]
  | some x =>
    obtain ⟨h1, h2⟩ := invF_some h
    exact invI_eq (by omega) h1 h2
def wErrC (q : Int) (xs : List Int) (at_ : Int) : Int := if unlikeI xs q = 0 then (if (List.range xs.length).all fun i => (invF (underI q xs at_ i) q).isSome then 0 else 5) else unlikeI xs q
theorem wErr_eq (q : Int) (xs : List Int) (at_ : Int) : wErr q xs at_ = wErrC q xs at_ := by
  unfold wErr wErrC
  split
  · rename_i h
    have hm := (unlikeI_zero h).1
    simp [mayB] at hm
    have : (∀ i, i < xs.length → HasInv (underI q xs at_ i) q) ↔ ((List.range xs.length).all fun i => (invF (underI q xs at_ i) q).isSome) = true := by
      rw [List.all_eq_true]
      exact ⟨fun h i hi => (hasInv_invF hm.1).1 (h i (List.mem_range.1 hi)), fun h i hi => (hasInv_invF hm.1).2 (h i (List.mem_range.2 hi))⟩
    simp only [this]
  · rfl
def wListC (q : Int) (xs : List Int) (at_ : Int) : List Int := if wErrC q xs at_ = 0 then (List.range xs.length).map fun i => mulI ((invF (underI q xs at_ i) q).getD 0 : Nat) (overI q xs at_ i) q else []
theorem wList_eq (q : Int) (xs : List Int) (at_ : Int) : wList q xs at_ = wListC q xs at_ := by
  unfold wList wListC
  rw [wErr_eq]
  split
  · rename_i h
    have hu : unlikeI xs q = 0 := Classical.byContradiction fun hn => by
      unfold wErrC at h
      rw [if_neg hn] at h
      exact hn h
    have hm := (unlikeI_zero hu).1
    simp [mayB] at hm
    refine List.map_congr_left fun i _ => ?_
    rw [wAt, invI_invF hm.1]
  · rfl
def sumEC (p : Par) (at_ : List Int) (l : List (List (Int × Int))) : Int := if smallB p && membersB at_ && at_.length == l.length && !l.any (fun x => oddB p x) then wErrC p.Q at_ 0 else 1
def sumLC (p : Par) (at_ : List Int) (l : List (List (Int × Int))) : List (Int × Int) := if sumEC p at_ l = 0 then (List.range (secretsI p).toNat).map fun s => comeP p.Q (l.map fun x => x[s]?.getD (0, 0)) (wListC p.Q at_ 0) (0, 0) else []
theorem sumE_eq (p : Par) (at_ : List Int) (l : List (List (Int × Int))) : sumE p at_ l = sumEC p at_ l := by unfold sumE sumEC; rw [wErr_eq]
theorem sumL_eq (p : Par) (at_ : List Int) (l : List (List (Int × Int))) : sumL p at_ l = sumLC p at_ l := by unfold sumL sumLC; rw [sumE_eq, wList_eq]
def comsEC (p : Par) (deals : List (Int × List (List Int))) : Int :=
  if smallB p && decide (0 ≤ p.T ∧ p.T ≤ 2) && !deals.any (fun d => !((d.2.length : Int) == secretsI p) || d.2.any (shortB p)) && membersB (deals.map (·.1)) then wErrC p.Q (deals.map (·.1)) 0 else 1
def comsLC (p : Par) (deals : List (Int × List (List Int))) : List (List Int) :=
  if comsEC p deals = 0 then (List.range (secretsI p).toNat).map fun s => (List.range (p.T + 1).toNat).map fun j => comeU p.P (deals.map fun d => (d.2[s]?.getD [])[j]?.getD 0) (wListC p.Q (deals.map (·.1)) 0) (timesI p.P []) else []
theorem comsE_eq (p : Par) (deals : List (Int × List (List Int))) : comsE p deals = comsEC p deals := by unfold comsE comsEC; rw [wErr_eq]
theorem comsL_eq (p : Par) (deals : List (Int × List (List Int))) : comsL p deals = comsLC p deals := by unfold comsL comsLC; rw [comsE_eq, wList_eq]
abbrev ps : Par := ⟨23, 11, 4, 9, 4, 4, 1, 1, 1, 1, 1, 1⟩
theorem ps_ok : ps.ok := ⟨⟨by decide, by decide⟩, ⟨by decide, by decide⟩, ⟨by decide, by decide⟩, ⟨by decide, by decide⟩, ⟨by decide, by decide⟩, ⟨by decide, by decide⟩, ⟨by decide, by decide⟩, ⟨by decide, by decide⟩, ⟨by decide, by decide⟩, ⟨by decide, by decide⟩, ⟨by decide, by decide⟩, ⟨by decide, by decide⟩⟩
theorem ex1 : sumL ps [1, 2] [[(6, 5), (0, 0)], [(7, 8), (4, 6)]] = [(5, 2), (7, 5)] := by rw [sumL_eq]; decide +kernel
theorem ex2 : comsL ps [(1, [[4, 1], [1, 4]]), (2, [[9, 1], [1, 1]])] = [[12, 1], [1, 16]] := by rw [comsL_eq]; decide +kernel
theorem ex3 : modelW ps [1, 10] = [[1]] ∧ modelB ps [1, 10] = [-1] ∧ modelE ps [1, 10] = 0 := by decide +kernel
end Go.Proofs.YtnjkelojkoeihaaGreatDoor

namespace Go.Proofs.YtnjkelojkoeihaaGreatDoor
open Go.RowKit

theorem cell_lt {w : World} {g o : Nat} {v : Value} (h : w.cell? ⟨g, o, none⟩ = some v) : g < w.heap.size := by
  rcases Nat.lt_or_ge g w.heap.size with hlt | hge
  · exact hlt
  · simp [World.cell?, Array.getElem?_eq_none hge] at h
theorem TabsAt.kept {w w' : World} (h : TabsAt w) (hg : w.grownBy w' none) : TabsAt w' :=
  ⟨fun j hj => by have := h.1 j hj; rw [World.cell?_of_block (w := w) (hg.block _ (cell_lt this) (by simp))]; exact this,
   fun j hj => by have := h.2 j hj; rw [World.cell?_of_block (w := w) (hg.block _ (cell_lt this) (by simp))]; exact this⟩
set_option maxHeartbeats 400000 in
theorem may_9 (p : Par) (g : Nat) (w : World) (hT : TabsAt w) (hb : Bk w g 24 p.cells) :
    Calls Tryz.prog 41 #[.pointer (some ⟨g, 0, none⟩)] w fun e w' => e = .returned (.bool (m9 p)) ∧ w.grownBy w' none := by
  have hc := hb.prule
  have HQ := prime_any p.Q w hT
  have HP := Lib.hid (fun k => prime_any p.P (w.drewN k) (hT.drewN k))
  clear hb hT
  cases hQ : primeB p.Q with
  | true =>
    rw [hQ] at HQ
    have HQ2 := Lib.hid HQ
    have HE : Hid (m9 p = primeB p.P) := Lib.hid (by simp [m9, hQ])
    clear hQ HQ
    go_enter Tryz.func41, Tryz.ntmps41
    go_wp2_with fail
    refine HQ2.out.mono ?_
    rintro e w' ⟨rfl, k, rfl⟩
    go_wp2_with fail
    refine (HP.out k).mono ?_
    rintro e w' ⟨rfl, k2, rfl⟩
    go_wp2
    go_ret
    exact ⟨ret_bool HE.out.symm, grownBy_drewN (World.grownBy.refl w none) _⟩
  | false =>
    rw [hQ] at HQ
    have HQ2 := Lib.hid HQ
    have HE : Hid (m9 p = false) := Lib.hid (by simp [m9, hQ])
    clear hQ HQ
    go_enter Tryz.func41, Tryz.ntmps41
    go_wp2_with fail
    refine HQ2.out.mono ?_
    rintro e w' ⟨rfl, k, rfl⟩
    go_wp2
    go_ret
    exact ⟨ret_bool HE.out.symm, grownBy_drewN (World.grownBy.refl w none) _⟩
theorem is_eq (p : Par) (x : Int) (b : Bool) (h : isB p x = b) (w : World) (hp : p.ok) (h1 : U64 x) :
    Calls Tryz.prog 44 #[p.v, .int .u64 x] w fun e' w' => e' = .returned (.bool b) ∧ w.grownBy w' none := h ▸ is_any p x w hp h1
set_option maxHeartbeats 400000 in
theorem may_10 (p : Par) (g : Nat) (w : World) (hp : p.ok) (hb : Bk w g 24 p.cells) :
    Calls Tryz.prog 43 #[.pointer (some ⟨g, 0, none⟩)] w fun e w' => e = .returned (.bool (m10 p)) ∧ w.grownBy w' none := by
  have hc := hb.prule
  have HB := Lib.hid hb
  by_cases h1 : p.G = 1
  · have h1' : (p.G != 1) = false := by simpa using h1
    have HE : Hid (m10 p = false) := Lib.hid (by simp [m10, h1])
    clear h1 hp hb
    go_enter Tryz.func43, Tryz.ntmps43
    go_wp2
    go_ret
    exact ⟨ret_bool HE.out.symm, World.grownBy.refl w none⟩
  · have h1' : (p.G != 1) = true := by simpa using h1
    cases hG : isB p p.G with
    | false =>
      have HI := Lib.hid (fun w => is_eq p p.G _ hG w hp hp.G)
      have HE : Hid (m10 p = false) := Lib.hid (by simp [m10, hG])
      clear h1 hp hb hG
      go_enter Tryz.func43, Tryz.ntmps43
      go_wp2_with fail
      refine (HI.out _).mono ?_
      rintro e w1 ⟨rfl, hg⟩
      have HG := Lib.hid hg
      clear hg
      go_wp2
      go_ret
      exact ⟨ret_bool HE.out.symm, HG.out⟩
    | true =>
      have HI := Lib.hid (fun w => is_eq p p.G _ hG w hp hp.G)
      by_cases h2 : p.H = 1
      · have h2' : (p.H != 1) = false := by simpa using h2
        have HE : Hid (m10 p = false) := Lib.hid (by simp [m10, h2])
        clear h1 h2 hp hb hG
        go_enter Tryz.func43, Tryz.ntmps43
        go_wp2_with fail
        refine (HI.out _).mono ?_
        rintro e w1 ⟨rfl, hg⟩
        have HG := Lib.hid hg
        have hc1 := (HB.out.grown hg (by simp)).prule
        clear hg
        go_wp2
        go_ret
        exact ⟨ret_bool HE.out.symm, HG.out⟩
      · have h2' : (p.H != 1) = true := by simpa using h2
        have HJ := Lib.hid (fun w => is_any p p.H w hp hp.H)
        have HE : Hid (m10 p = isB p p.H) := Lib.hid (by simp [m10, hG, h1, h2])
        clear h1 h2 hp hb hG
        go_enter Tryz.func43, Tryz.ntmps43
        go_wp2_with fail
        refine (HI.out _).mono ?_
        rintro e w1 ⟨rfl, hg⟩
        have HG := Lib.hid hg
        have hc1 := (HB.out.grown hg (by simp)).prule
        clear hg
        go_wp2_with fail
        refine (HJ.out _).mono ?_
        rintro e w2 ⟨rfl, hg⟩
        have HG2 := Lib.hid (HG.out.trans hg)
        clear hg
        go_wp2
        go_ret
        exact ⟨ret_bool HE.out.symm, HG2.out⟩
def ms (p : Par) : List Bool := [m1 p, m2 p, m3 p, m4 p, m5 p, m6 p, m7 p, m8 p, m9 p, m10 p]
def fvs (g : Nat) : List Value := [.func (.func 32) #[] #[.pointer (some ⟨g, 0, none⟩)], .func (.func 33) #[] #[.pointer (some ⟨g, 0, none⟩)], .func (.func 35) #[] #[.pointer (some ⟨g, 0, none⟩)], .func (.func 36) #[] #[.pointer (some ⟨g, 0, none⟩)], .func (.func 37) #[] #[.pointer (some ⟨g, 0, none⟩)], .func (.func 38) #[] #[.pointer (some ⟨g, 0, none⟩)], .func (.func 39) #[] #[.pointer (some ⟨g, 0, none⟩)], .func (.func 40) #[] #[.pointer (some ⟨g, 0, none⟩)], .func (.func 41) #[] #[.pointer (some ⟨g, 0, none⟩)], .func (.func 43) #[] #[.pointer (some ⟨g, 0, none⟩)]]

set_option maxHeartbeats 400000 in
theorem ask_1 (p : Par) (g : Nat) (w : World) (hp : p.ok) (_hT : TabsAt w) (hb : Bk w g 24 p.cells)  :
    Calls Tryz.prog 46 #[.func (.func 32) #[] #[.pointer (some ⟨g, 0, none⟩)]] w fun e w' => e = .returned (.bool (!m1 p)) ∧ w.grownBy w' none := by
  have HM := Lib.hid (may_1 p g w hp hb)
  clear hp _hT hb
  go_enter Tryz.func46, Tryz.ntmps46
  go_wp2_with fail
  refine HM.out.mono ?_
  rintro e w1 ⟨rfl, hg⟩
  have HG := Lib.hid hg
  clear hg
  go_wp2
  go_ret
  exact ⟨rfl, HG.out⟩
set_option maxHeartbeats 400000 in
theorem ask_2 (p : Par) (g : Nat) (w : World) (_hp : p.ok) (_hT : TabsAt w) (hb : Bk w g 24 p.cells)  :
    Calls Tryz.prog 46 #[.func (.func 33) #[] #[.pointer (some ⟨g, 0, none⟩)]] w fun e w' => e = .returned (.bool (!m2 p)) ∧ w.grownBy w' none := by
  have HM := Lib.hid (may_2 p g w hb)
  clear _hp _hT hb
  go_enter Tryz.func46, Tryz.ntmps46
  go_wp2_with fail
  refine HM.out.mono ?_
  rintro e w1 ⟨rfl, hg⟩
  have HG := Lib.hid hg
  clear hg
  go_wp2
  go_ret
  exact ⟨rfl, HG.out⟩
set_option maxHeartbeats 400000 in
theorem ask_3 (p : Par) (g : Nat) (w : World) (hp : p.ok) (_hT : TabsAt w) (hb : Bk w g 24 p.cells) (h2 : m2 p = true) :
    Calls Tryz.prog 46 #[.func (.func 35) #[] #[.pointer (some ⟨g, 0, none⟩)]] w fun e w' => e = .returned (.bool (!m3 p)) ∧ w.grownBy w' none := by
  have HM := Lib.hid (may_3 p g w hp hb h2)
  clear hp _hT hb h2
  go_enter Tryz.func46, Tryz.ntmps46
  go_wp2_with fail
  refine HM.out.mono ?_
  rintro e w1 ⟨rfl, hg⟩
  have HG := Lib.hid hg
  clear hg
  go_wp2
  go_ret
  exact ⟨rfl, HG.out⟩
set_option maxHeartbeats 400000 in
theorem ask_4 (p : Par) (g : Nat) (w : World) (_hp : p.ok) (_hT : TabsAt w) (hb : Bk w g 24 p.cells)  :
    Calls Tryz.prog 46 #[.func (.func 36) #[] #[.pointer (some ⟨g, 0, none⟩)]] w fun e w' => e = .returned (.bool (!m4 p)) ∧ w.grownBy w' none := by
  have HM := Lib.hid (may_4 p g w hb)
  clear _hp _hT hb
  go_enter Tryz.func46, Tryz.ntmps46
  go_wp2_with fail
  refine HM.out.mono ?_
  rintro e w1 ⟨rfl, hg⟩
  have HG := Lib.hid hg
  clear hg
  go_wp2
  go_ret
  exact ⟨rfl, HG.out⟩
set_option maxHeartbeats 400000 in
theorem ask_5 (p : Par) (g : Nat) (w : World) (_hp : p.ok) (_hT : TabsAt w) (hb : Bk w g 24 p.cells)  :
    Calls Tryz.prog 46 #[.func (.func 37) #[] #[.pointer (some ⟨g, 0, none⟩)]] w fun e w' => e = .returned (.bool (!m5 p)) ∧ w.grownBy w' none := by
  have HM := Lib.hid (may_5 p g w hb)
  clear _hp _hT hb
  go_enter Tryz.func46, Tryz.ntmps46
  go_wp2_with fail
  refine HM.out.mono ?_
  rintro e w1 ⟨rfl, hg⟩
  have HG := Lib.hid hg
  clear hg
  go_wp2
  go_ret
  exact ⟨rfl, HG.out⟩
set_option maxHeartbeats 400000 in
theorem ask_6 (p : Par) (g : Nat) (w : World) (_hp : p.ok) (_hT : TabsAt w) (hb : Bk w g 24 p.cells)  :
    Calls Tryz.prog 46 #[.func (.func 38) #[] #[.pointer (some ⟨g, 0, none⟩)]] w fun e w' => e = .returned (.bool (!m6 p)) ∧ w.grownBy w' none := by
  have HM := Lib.hid (may_6 p g w hb)
  clear _hp _hT hb
  go_enter Tryz.func46, Tryz.ntmps46
  go_wp2_with fail
  refine HM.out.mono ?_
  rintro e w1 ⟨rfl, hg⟩
  have HG := Lib.hid hg
  clear hg
  go_wp2
  go_ret
  exact ⟨rfl, HG.out⟩
set_option maxHeartbeats 400000 in
theorem ask_7 (p : Par) (g : Nat) (w : World) (_hp : p.ok) (_hT : TabsAt w) (hb : Bk w g 24 p.cells)  :
    Calls Tryz.prog 46 #[.func (.func 39) #[] #[.pointer (some ⟨g, 0, none⟩)]] w fun e w' => e = .returned (.bool (!m7 p)) ∧ w.grownBy w' none := by
  have HM := Lib.hid (may_7 p g w hb)
  clear _hp _hT hb
  go_enter Tryz.func46, Tryz.ntmps46
  go_wp2_with fail
  refine HM.out.mono ?_
  rintro e w1 ⟨rfl, hg⟩
  have HG := Lib.hid hg
  clear hg
  go_wp2
  go_ret
  exact ⟨rfl, HG.out⟩
set_option maxHeartbeats 400000 in
theorem ask_8 (p : Par) (g : Nat) (w : World) (hp : p.ok) (_hT : TabsAt w) (hb : Bk w g 24 p.cells) (h5 : m5 p = true) (h7 : m7 p = true) :
    Calls Tryz.prog 46 #[.func (.func 40) #[] #[.pointer (some ⟨g, 0, none⟩)]] w fun e w' => e = .returned (.bool (!m8 p)) ∧ w.grownBy w' none := by
  have HM := Lib.hid (may_8 p g w hp hb h5 h7)
  clear hp _hT hb h5 h7
  go_enter Tryz.func46, Tryz.ntmps46
  go_wp2_with fail
  refine HM.out.mono ?_
  rintro e w1 ⟨rfl, hg⟩
  have HG := Lib.hid hg
  clear hg
  go_wp2
  go_ret
  exact ⟨rfl, HG.out⟩
set_option maxHeartbeats 400000 in
theorem ask_9 (p : Par) (g : Nat) (w : World) (_hp : p.ok) (hT : TabsAt w) (hb : Bk w g 24 p.cells)  :
    Calls Tryz.prog 46 #[.func (.func 41) #[] #[.pointer (some ⟨g, 0, none⟩)]] w fun e w' => e = .returned (.bool (!m9 p)) ∧ w.grownBy w' none := by
  have HM := Lib.hid (may_9 p g w hT hb)
  clear _hp hT hb
  go_enter Tryz.func46, Tryz.ntmps46
  go_wp2_with fail
  refine HM.out.mono ?_
  rintro e w1 ⟨rfl, hg⟩
  have HG := Lib.hid hg
  clear hg
  go_wp2
  go_ret
  exact ⟨rfl, HG.out⟩
set_option maxHeartbeats 400000 in
theorem ask_10 (p : Par) (g : Nat) (w : World) (hp : p.ok) (_hT : TabsAt w) (hb : Bk w g 24 p.cells)  :
    Calls Tryz.prog 46 #[.func (.func 43) #[] #[.pointer (some ⟨g, 0, none⟩)]] w fun e w' => e = .returned (.bool (!m10 p)) ∧ w.grownBy w' none := by
  have HM := Lib.hid (may_10 p g w hp hb)
  clear hp _hT hb
  go_enter Tryz.func46, Tryz.ntmps46
  go_wp2_with fail
  refine HM.out.mono ?_
  rintro e w1 ⟨rfl, hg⟩
  have HG := Lib.hid hg
  clear hg
  go_wp2
  go_ret
  exact ⟨rfl, HG.out⟩
theorem ask_any (p : Par) (g : Nat) (w : World) (hp : p.ok) (hT : TabsAt w) (hb : Bk w g 24 p.cells) : ∀ (j : Nat) (_h : j < (fvs g).length) (h' : j < (ms p).length), (∀ i (hi : i < j), (ms p)[i]'(by omega) = true) →
    Calls Tryz.prog 46 #[(fvs g)[j]] w fun e w' => e = .returned (.bool (!(ms p)[j])) ∧ w.grownBy w' none
  | 0, _, _, _ => ask_1 p g w hp hT hb
  | 1, _, _, _ => ask_2 p g w hp hT hb
  | 2, _, _, hh => ask_3 p g w hp hT hb (hh 1 (by omega))
  | 3, _, _, _ => ask_4 p g w hp hT hb
  | 4, _, _, _ => ask_5 p g w hp hT hb
  | 5, _, _, _ => ask_6 p g w hp hT hb
  | 6, _, _, _ => ask_7 p g w hp hT hb
  | 7, _, _, hh => ask_8 p g w hp hT hb (hh 4 (by omega)) (hh 6 (by omega))
  | 8, _, _, _ => ask_9 p g w hp hT hb
  | 9, _, _, _ => ask_10 p g w hp hT hb
  | n + 10, h, _, _ => absurd h (by simp [fvs])
theorem mayP_all (p : Par) : mayP p = (ms p).all id := by simp [mayP, ms, Bool.and_assoc]
/-- What IndexFunc tells of the asks. -/
def Found (p : Par) (w : World) (e : Ending) (w' : World) : Prop := ∃ n : Int, e = .returned (.int .i64 n) ∧ decide (0 ≤ n) = !mayP p ∧ w.grownBy w' none
set_option maxHeartbeats 400000 in
theorem index_any (p : Par) (g ga : Nat) (t : TypeId) (w : World) (hp : p.ok) (hT : TabsAt w) (hb : Bk w g 24 p.cells) (ha : Bk w ga t (fvs g).toArray) :
    Calls Tryz.prog 87 #[.slice (some ⟨ga, 0, none⟩) 10 10, .func (.func 46) #[] #[]] w (Found p w) := by
  have HP := Lib.hid hp
  have HT := Lib.hid hT
  have HB := Lib.hid hb
  have HA := Lib.hid ha
  clear hp hT hb ha
  go_enter Tryz.func87, Tryz.ntmps87
  go_wp2_with fail
  go_loopg [8] 10 (fun n s8 wx => ∃ j : Nat, j + n = 10 ∧ s8 = .int .i64 j ∧ Hid (w.grownBy wx none ∧ ∀ i (_ : i < j) (h : i < (ms p).length), (ms p)[i] = true))
  case atStart => exact ⟨0, by omega, rfl, Lib.hid ⟨World.grownBy.refl w none, fun i hi => absurd hi (by omega)⟩⟩
  case round =>
    obtain ⟨j, hj, rfl, HX⟩ := hrel
    cases gk with
    | zero =>
      obtain rfl : j = 10 := by omega
      have HE : Hid (Found p w (.returned (.int .i64 (-1))) wr) := Lib.hid ⟨-1, rfl, by
        have : mayP p = true := by
          rw [mayP_all, List.all_eq_true]
          intro b hb
          obtain ⟨i, hi, rfl⟩ := List.getElem_of_mem hb
          exact HX.out.2 i (by simp [ms] at hi; omega) hi
        rw [this]
        rfl, HX.out.1⟩
      clear HX
      go_wp2
      go_ret
      exact HE.out
    | succ k =>
      have hjn : (j : Int) < 10 := by omega
      have hj1 : j < (fvs g).length := by simp [fvs]; omega
      have hj2 : j < (ms p).length := by simp [ms]; omega
      have hcell : wr.cell? ⟨ga, j, none⟩ = some (fvs g)[j] := by
        rw [(HA.out.grown HX.out.1 (by simp)).cell j, List.getElem?_toArray]
        exact List.getElem?_eq_getElem hj1
      have HC := Lib.hid (ask_any p g wr HP.out (HT.out.kept HX.out.1) (HB.out.grown HX.out.1 (by simp)) j hj1 hj2 (fun i hi => HX.out.2 i hi (by omega)))
      have HV : Hid ((ms p)[j] = true ∨ (ms p)[j] = false) := Lib.hid (by cases (ms p)[j] <;> simp)
      have HR : Hid ((ms p)[j] = true → ∀ i (_ : i < j + 1) (h : i < (ms p).length), (ms p)[i] = true) := Lib.hid (fun h i hi hl => by
        rcases Nat.lt_or_ge i j with h1 | h1
        · exact HX.out.2 i h1 hl
        · obtain rfl : i = j := by omega
          exact h)
      have HN : Hid ((ms p)[j] = false → mayP p = false) := Lib.hid (fun h => by
        rw [mayP_all, Bool.eq_false_iff]
        intro hall
        rw [List.all_eq_true] at hall
        have := hall _ (List.getElem_mem hj2)
        simp [h] at this)
      have HG := Lib.hid HX.out.1
      generalize (fvs g)[j] = fv at *
      generalize (ms p)[j] = b at *
      clear HX hj1 hj2
      rcases HV.out with rfl | rfl
      · go_wp2_with fail
        refine HC.out.mono ?_
        rintro e w1 ⟨rfl, hg⟩
        have HG1 := Lib.hid (HG.out.trans hg)
        clear hg
        go_wp2
        go_roundg k
        case measure => omega
        case rel => exact ⟨j + 1, by omega, by go_num, Lib.hid ⟨HG1.out, HR.out (by simp)⟩⟩
      · have HE : Hid (∀ w1, w.grownBy w1 none → Found p w (.returned (.int .i64 j)) w1) := Lib.hid (fun w1 hg => ⟨j, rfl, by rw [HN.out rfl]; simp, hg⟩)
        go_wp2_with fail
        refine HC.out.mono ?_
        rintro e w1 ⟨rfl, hg⟩
        have HG1 := Lib.hid (HG.out.trans hg)
        clear hg
        go_wp2
        go_ret
        exact HE.out _ HG1.out
set_option maxHeartbeats 400000 in
theorem contains_any (p : Par) (g ga : Nat) (t : TypeId) (w : World) (hp : p.ok) (hT : TabsAt w) (hb : Bk w g 24 p.cells) (ha : Bk w ga t (fvs g).toArray) :
    Calls Tryz.prog 45 #[.slice (some ⟨ga, 0, none⟩) 10 10, .func (.func 46) #[] #[]] w fun e w' => e = .returned (.bool (!mayP p)) ∧ w.grownBy w' none := by
  have HI := Lib.hid (index_any p g ga t w hp hT hb ha)
  clear hp hT hb ha
  go_enter Tryz.func45, Tryz.ntmps45
  go_wp2_with fail
  refine HI.out.mono ?_
  rintro e w1 ⟨n, rfl, hn, hg⟩
  have HN := Lib.hid hn
  have HG := Lib.hid hg
  clear hn hg
  go_wp2
  go_ret
  exact ⟨ret_bool HN.out, HG.out⟩
set_option maxHeartbeats 400000 in
theorem may_any (p : Par) (w : World) (hp : p.ok) (hT : TabsAt w) :
    Calls Tryz.prog 7 #[p.v] w fun e w' => e = .returned (.bool (mayP p)) ∧ w.grownBy w' none := by
  have hg1 : w.grownBy (w.alloc (Obj.cells p.cells 24)) none := World.grownBy_alloc w _ none
  have hg2 := World.grownBy_alloc (w.alloc (Obj.cells p.cells 24)) (Obj.cells (fvs w.heap.size).toArray 26) none
  have HC := Lib.hid (contains_any p w.heap.size (w.heap.size + 1) 26 ((w.alloc (Obj.cells p.cells 24)).alloc (Obj.cells (fvs w.heap.size).toArray 26)) hp (hT.kept (hg1.trans hg2)) ((Bk.new w _ _).alloc _)
    (by have := Bk.new (w.alloc (Obj.cells p.cells 24)) 26 (fvs w.heap.size).toArray; rwa [World.size_alloc] at this))
  have HGR := Lib.hid (hg1.trans hg2)
  clear hp hT hg1 hg2
  unfold fvs at HC HGR
  go_enter Tryz.func7, Tryz.ntmps7
  go_wp2_with fail
  refine HC.out.mono ?_
  rintro e w1 ⟨rfl, hg⟩
  have HG := Lib.hid (HGR.out.trans hg)
  clear hg
  go_wp2
  go_ret
  exact ⟨ret_bool (by simp), HG.out⟩
end Go.Proofs.YtnjkelojkoeihaaGreatDoor

namespace Go.Proofs.YtnjkelojkoeihaaGreatDoor
open Go.RowKit

theorem hasInv_of {a m x : Int} (hm : 0 < m) (h : Cg m (a * x) 1) : HasInv a m :=
  ⟨x % m, Int.emod_nonneg _ (by omega), Int.emod_lt_of_pos _ hm, ((Cg.mod m x).mul_left a).trans h⟩
theorem hasInv_cg {a b m : Int} (h : HasInv a m) (k : Cg m b a) : HasInv b m := by
  obtain ⟨x, h0, h1, hx⟩ := h
  exact ⟨x, h0, h1, (k.mul_right x).trans hx⟩
theorem hasInv_mul {a b m : Int} (hm : 0 < m) (h : HasInv a m) (k : HasInv b m) : HasInv (a * b) m := by
  obtain ⟨x, _, _, hx⟩ := h
  obtain ⟨y, _, _, hy⟩ := k
  refine hasInv_of hm (x := x * y) ((Cg.of_eq ?_).trans (hx.mul hy))
  rw [Int.mul_assoc, Int.mul_assoc, ← Int.mul_assoc b, Int.mul_comm b x, Int.mul_assoc]
theorem hasInv_neg {a m : Int} (hm : 0 < m) (h : HasInv a m) : HasInv (-a) m := by
  obtain ⟨x, _, _, hx⟩ := h
  exact hasInv_of hm (x := -x) ((Cg.of_eq (Int.neg_mul_neg a x)).trans hx)
theorem hasInv_lin {a q k x : Int} (hq : 0 < q) (h : a * x = k * q + 1) : HasInv a q := hasInv_of hq (x := x) (Cg.of_dvd ⟨k, by rw [h, Int.mul_comm]; omega⟩)
theorem hasInv_two {q : Int} (hq : 0 < q) (h : q % 2 ≠ 0) : HasInv 2 q := hasInv_lin hq (k := 1) (x := (q + 1) / 2) (by omega)
theorem hasInv_three {q : Int} (hq : 0 < q) (h : q % 3 ≠ 0) : HasInv 3 q := by
  have h3 : q % 3 = 1 ∨ q % 3 = 2 := by omega
  rcases h3 with h3 | h3
  · exact hasInv_lin hq (k := 2) (x := (2 * q + 1) / 3) (by omega)
  · exact hasInv_lin hq (k := 1) (x := (q + 1) / 3) (by omega)
theorem hasInv_five {q : Int} (hq : 0 < q) (h : q % 5 ≠ 0) : HasInv 5 q := by
  have h5 : q % 5 = 1 ∨ q % 5 = 2 ∨ q % 5 = 3 ∨ q % 5 = 4 := by omega
  rcases h5 with h5 | h5 | h5 | h5
  · exact hasInv_lin hq (k := 4) (x := (4 * q + 1) / 5) (by omega)
  · exact hasInv_lin hq (k := 2) (x := (2 * q + 1) / 5) (by omega)
  · exact hasInv_lin hq (k := 3) (x := (3 * q + 1) / 5) (by omega)
  · exact hasInv_lin hq (k := 1) (x := (q + 1) / 5) (by omega)
/-- Numbers from 1 to below n have inverses. -/
def Apart (q : Int) (n : Int) : Prop := ∀ d, 1 ≤ d → d < n → HasInv d q
theorem prime_small {q : Int} (h : primeB q = true) : (q % 2 = 0 → q = 2) ∧ (q % 3 = 0 → q = 3 ∨ q % 2 = 0) ∧ (q % 5 = 0 → q = 5 ∨ q % 2 = 0 ∨ q % 3 = 0) := by
  unfold primeB at h
  split at h
  · cases h
  · unfold triedL at h
    refine ⟨fun h2 => ?_, fun h3 => ?_, fun h5 => ?_⟩
    · simp only [goB, h2, if_true] at h
      simpa using h
    · by_cases h2 : q % 2 = 0
      · exact .inr h2
      · simp only [goB, h2, if_false, h3, if_true] at h
        left
        split at h
        · simpa using h
        · cases h
    · by_cases h2 : q % 2 = 0
      · exact .inr (.inl h2)
      · by_cases h3 : q % 3 = 0
        · exact .inr (.inr h3)
        · simp only [goB, h2, if_false, h3, h5, if_true] at h
          left
          split at h
          · split at h
            · simpa using h
            · cases h
          · cases h
theorem may_apart {p : Par} (h : mayP p = true) : mayB p.Q = true ∧ mayB p.P = true ∧ Apart p.Q p.N ∧ 4 ≤ p.N ∧ p.N ≤ 7 ∧ p.N < p.Q ∧ 1 ≤ p.T ∧ p.T ≤ 2 ∧ 3 * p.T + 1 ≤ p.N ∧ smallB p = true ∧ 1 ≤ p.K ∧ 1 ≤ p.D := by
  simp only [mayP, m1, m2, m3, m5, m9, Bool.and_eq_true, withinB_iff, decide_eq_true_eq] at h
  obtain ⟨⟨⟨⟨⟨⟨⟨⟨⟨a1, a2⟩, a3⟩, _⟩, a5⟩, _⟩, _⟩, _⟩, a9⟩, _⟩ := h
  obtain ⟨⟨⟨p1, p2⟩, q1⟩, pq⟩ := a1
  obtain ⟨t1, t2⟩ := a2
  obtain ⟨⟨n1, n2⟩, n3⟩ := a3
  obtain ⟨⟨k1, k2⟩, d1, d2⟩ := a5
  obtain ⟨hq, hp⟩ := a9
  have hQ : p.Q ≤ 2305843009213693952 := by
    unfold primeB at hq
    split at hq
    · cases hq
    · omega
  obtain ⟨s2, s3, s5⟩ := prime_small hq
  have hq0 : 0 < p.Q := by omega
  have i2 : HasInv 2 p.Q := hasInv_two hq0 fun e => by have := s2 e; omega
  have i3 : HasInv 3 p.Q := hasInv_three hq0 fun e => by
    rcases s3 e with e | e
    · omega
    · have := s2 e; omega
  have i1 : HasInv 1 p.Q := hasInv_lin hq0 (k := 0) (x := 1) (by omega)
  refine ⟨by simp [mayB]; omega, by simp [mayB]; omega, fun d e1 e2 => ?_, by omega, n2, n3, t1, t2, n1, by simp [smallB]; omega, k1, d1⟩
  have hd : d = 1 ∨ d = 2 ∨ d = 3 ∨ d = 4 ∨ d = 5 ∨ d = 6 := by omega
  rcases hd with rfl | rfl | rfl | rfl | rfl | rfl
  · exact i1
  · exact i2
  · exact i3
  · exact hasInv_mul hq0 i2 i2
  · refine hasInv_five hq0 fun e => ?_
    rcases s5 e with e | e | e
    · omega
    · have := s2 e; omega
    · rcases s3 e with e | e
      · omega
      · have := s2 e; omega
  · exact hasInv_mul hq0 i2 i3
def prodZ (l : List Int) : Int := l.foldr (· * ·) 1
theorem prodZ_append (a b : List Int) : prodZ (a ++ b) = prodZ a * prodZ b := by
  induction a with
  | nil => simp [prodZ]
  | cons x a ih =>
    show x * prodZ (a ++ b) = x * prodZ a * prodZ b
    rw [ih, Int.mul_assoc]
theorem prodZ_reverse (l : List Int) : prodZ l.reverse = prodZ l := by
  induction l with
  | nil => rfl
  | cons x l ih =>
    rw [List.reverse_cons, prodZ_append, ih]
    show prodZ l * (x * 1) = x * prodZ l
    rw [Int.mul_one, Int.mul_comm]
theorem foldl_mul_cg (q : Int) (hq : mayB q = true) : ∀ (l : List Int) (s : Int), Cg q (l.foldl (fun s y => mulI s y q) s) (s * prodZ l)
  | [], s => Cg.of_eq (Int.mul_one s).symm
  | y :: l, s => by
    refine (foldl_mul_cg q hq l (mulI s y q)).trans ?_
    show Cg q _ (s * (y * prodZ l))
    rw [← Int.mul_assoc]
    refine Cg.mul_right ?_ _
    rw [mulI_yes _ _ _ hq]
    exact Cg.mod _ _
theorem foldl_mul_bd (q : Int) (hq : mayB q = true) : ∀ (l : List Int) (s : Int), 0 ≤ s → s < q → 0 ≤ l.foldl (fun s y => mulI s y q) s ∧ l.foldl (fun s y => mulI s y q) s < q
  | [], _, h1, h2 => ⟨h1, h2⟩
  | y :: l, s, _, _ => foldl_mul_bd q hq l _ (mulI_bd s y q hq).1 (mulI_bd s y q hq).2
theorem mayB_pos {q : Int} (hq : mayB q = true) : 0 < q := by simp [mayB] at hq; exact hq.1
theorem prodI_eq (q : Int) (hq : mayB q = true) (l : List Int) : prodI q l = prodZ l % q := by
  have h0 := mayB_pos hq
  have h1 := foldl_mul_cg q hq l (1 % q)
  have h2 := foldl_mul_bd q hq l (1 % q) (Int.emod_nonneg _ (by omega)) (Int.emod_lt_of_pos _ h0)
  have h3 : Cg q (prodI q l) (prodZ l) := h1.trans (((Cg.mod q 1).mul_right _).trans (Cg.of_eq (Int.one_mul _)))
  unfold Cg at h3
  rw [← h3]
  exact (Int.emod_eq_of_lt h2.1 h2.2).symm
theorem hasInv_prod {q : Int} (hq : 0 < q) : ∀ (l : List Int), (∀ x ∈ l, HasInv x q) → HasInv (prodZ l) q
  | [], _ => hasInv_lin hq (k := 0) (x := 1) (by show (1 : Int) * 1 = _; omega)
  | x :: l, h => hasInv_mul hq (h x (by simp)) (hasInv_prod hq l fun y hy => h y (by simp [hy]))
theorem subI_cg (x y q : Int) (hq : mayB q = true) : Cg q (subI x y q) (x - y) := by
  rw [subI_yes _ _ _ hq]
  exact Cg.mod _ _
/-- Places from 1 to n, each once. -/
def Places (n : Int) (xs : List Int) : Prop := (∀ x ∈ xs, 1 ≤ x ∧ x ≤ n) ∧ xs.Nodup
theorem Places.rev {n : Int} {xs : List Int} (h : Places n xs) : Places n xs.reverse := ⟨fun x hx => h.1 x (List.mem_reverse.1 hx), (List.pairwise_reverse (R := (· ≠ ·))).2 (List.Pairwise.imp Ne.symm h.2)⟩
theorem under_inv {q n : Int} {xs : List Int} (hq : mayB q = true) (ha : Apart q n) (hp : Places n xs) (at_ : Int) (i : Nat) (hi : i < xs.length) : HasInv (underI q xs at_ i) q := by
  have h0 := mayB_pos hq
  unfold underI
  rw [prodI_eq _ hq]
  refine hasInv_cg (hasInv_prod h0 _ fun x hx => ?_) (Cg.mod _ _)
  obtain ⟨⟨a, b⟩, hab, rfl⟩ := List.mem_map.1 hx
  simp only [othersI, othersUp, List.mem_map, List.mem_filter, List.mem_range, bne_iff_ne] at hab
  obtain ⟨j, ⟨hj, hne⟩, he⟩ := hab
  have he1 : a = subI (xs[i]?.getD 0) (xs[j]?.getD 0) q := (congrArg Prod.fst he).symm
  show HasInv a q
  rw [he1]
  refine hasInv_cg ?_ (subI_cg _ _ _ hq)
  rw [List.getElem?_eq_getElem hi, List.getElem?_eq_getElem hj, Option.getD_some, Option.getD_some]
  have hx1 := hp.1 _ (List.getElem_mem hi)
  have hx2 := hp.1 _ (List.getElem_mem hj)
  have hne' : xs[i] ≠ xs[j] := fun e => hne ((List.getElem?_inj hi hp.2).1 (by rw [List.getElem?_eq_getElem hi, List.getElem?_eq_getElem hj, e])).symm
  rcases Int.lt_or_gt_of_ne hne' with h | h
  · have := hasInv_neg h0 (ha (xs[j] - xs[i]) (by omega) (by omega))
    rwa [show -(xs[j] - xs[i]) = xs[i] - xs[j] by omega] at this
  · exact ha (xs[i] - xs[j]) (by omega) (by omega)
theorem seenL_nodup : ∀ (l : List Int), l.Nodup → seenL l = l := by
  intro l
  have key : ∀ (n : Nat) (l : List Int), l.length = n → l.Nodup → seenL l = l := by
    intro n
    induction n with
    | zero => intro l h _; rw [List.eq_nil_of_length_eq_zero h]; rfl
    | succ n ih =>
      intro l h hn
      rcases List.eq_nil_or_concat l with rfl | ⟨l', x, rfl⟩
      · simp at h
      · rw [List.concat_eq_append] at h hn ⊢
        have hl : l'.length = n := by simpa using h
        obtain ⟨h1, _, h3⟩ := List.nodup_append.1 hn
        rw [seenL_snoc, ih l' hl h1]
        have : l'.contains x = false := by
          rw [Bool.eq_false_iff]
          intro hc
          exact h3 x (List.contains_iff_mem.1 hc) x (by simp) rfl
        rw [this]
        rfl
  exact key l.length l rfl
theorem werr_zero {q n : Int} {xs : List Int} (hq : mayB q = true) (ha : Apart q n) (hn : n < q) (hp : Places n xs) (hl : xs.length ≤ 1024) (at_ : Int) : wErr q xs at_ = 0 := by
  have hm : xs.map (· % q) = xs := by
    refine (List.map_congr_left fun x hx => ?_).trans (List.map_id' xs)
    have := hp.1 x hx
    exact Int.emod_eq_of_lt (by omega) (by omega)
  have hu : unlikeI xs q = 0 := by
    unfold unlikeI
    rw [hm, seenL_nodup xs hp.2, if_neg (by rw [hq]; simp), if_neg (by omega), if_neg (by omega)]
  unfold wErr
  rw [if_pos hu, if_pos fun i hi => under_inv hq ha hp at_ i hi]
end Go.Proofs.YtnjkelojkoeihaaGreatDoor

namespace Go.Proofs.YtnjkelojkoeihaaGreatDoor
open Go.RowKit

theorem filter_ne_reverse (n i : Nat) (hi : i < n) : ((List.range n).filter fun j => j != n - 1 - i).map (fun j => n - 1 - j) = ((List.range n).filter fun j => j != i).reverse := by
  have h1 : (List.range n).reverse = (List.range n).map fun j => n - 1 - j := by
    refine List.ext_getElem (by simp) fun k h1 h2 => ?_
    simp
  rw [← List.filter_reverse, h1, List.filter_map]
  refine congrArg (List.map _) (List.filter_congr fun j hj => ?_)
  have := List.mem_range.1 hj
  simp only [Function.comp]
  rw [Bool.eq_iff_iff]
  simp only [bne_iff_ne]
  omega
theorem others_reverse (q : Int) (xs : List Int) (at_ : Int) (i : Nat) (hi : i < xs.length) : othersI q xs.reverse (xs.length - 1 - i) at_ = (othersI q xs i at_).reverse := by
  unfold othersI othersUp
  rw [List.length_reverse, ← List.map_reverse, ← filter_ne_reverse _ _ hi, List.map_map]
  refine List.map_congr_left fun j hj => ?_
  have hj' := List.mem_range.1 (List.mem_filter.1 hj).1
  have e1 : xs.reverse[xs.length - 1 - i]? = xs[i]? := by
    rw [List.getElem?_reverse (by omega)]
    congr 1
    omega
  have e2 : xs.reverse[j]? = xs[xs.length - 1 - j]? := List.getElem?_reverse hj'
  simp only [Function.comp, e1, e2]
theorem under_reverse (q : Int) (hq : mayB q = true) (xs : List Int) (at_ : Int) (i : Nat) (hi : i < xs.length) : underI q xs.reverse at_ (xs.length - 1 - i) = underI q xs at_ i := by
  unfold underI
  rw [others_reverse q xs at_ i hi, List.map_reverse, prodI_eq _ hq, prodI_eq _ hq, prodZ_reverse]
theorem over_reverse (q : Int) (hq : mayB q = true) (xs : List Int) (at_ : Int) (i : Nat) (hi : i < xs.length) : overI q xs.reverse at_ (xs.length - 1 - i) = overI q xs at_ i := by
  unfold overI
  rw [others_reverse q xs at_ i hi, List.map_reverse, prodI_eq _ hq, prodI_eq _ hq, prodZ_reverse]
theorem wlist_reverse {q n : Int} {xs : List Int} (hq : mayB q = true) (ha : Apart q n) (hn : n < q) (hp : Places n xs) (hl : xs.length ≤ 1024) (at_ : Int) : wList q xs.reverse at_ = (wList q xs at_).reverse := by
  unfold wList
  rw [if_pos (werr_zero hq ha hn hp hl at_), if_pos (werr_zero hq ha hn hp.rev (by rw [List.length_reverse]; exact hl) at_)]
  refine List.ext_getElem (by simp) fun k h1 h2 => ?_
  simp only [List.length_map, List.length_range, List.length_reverse] at h1
  rw [List.getElem_map, List.getElem_range, List.getElem_reverse, List.getElem_map, List.getElem_range]
  simp only [List.length_map, List.length_range]
  have h3 := under_reverse q hq xs at_ (xs.length - 1 - k) (by omega)
  have h4 := over_reverse q hq xs at_ (xs.length - 1 - k) (by omega)
  rw [show xs.length - 1 - (xs.length - 1 - k) = k by omega] at h3 h4
  unfold wAt
  rw [h3, h4]
theorem wlist_length {q n : Int} {xs : List Int} (hq : mayB q = true) (ha : Apart q n) (hn : n < q) (hp : Places n xs) (hl : xs.length ≤ 1024) (at_ : Int) : (wList q xs at_).length = xs.length := by
  unfold wList
  rw [if_pos (werr_zero hq ha hn hp hl at_)]
  simp
def dotZ : List Int → List Int → Int
  | x :: l, k :: ks => x * k + dotZ l ks
  | _, _ => 0
theorem dotZ_append : ∀ (l ks l2 ks2 : List Int), l.length = ks.length → dotZ (l ++ l2) (ks ++ ks2) = dotZ l ks + dotZ l2 ks2
  | [], [], _, _, _ => by simp [dotZ]
  | x :: l, k :: ks, l2, ks2, h => by
    show x * k + dotZ (l ++ l2) (ks ++ ks2) = x * k + dotZ l ks + dotZ l2 ks2
    rw [dotZ_append l ks l2 ks2 (by simpa using h)]
    omega
theorem dotZ_reverse : ∀ (l ks : List Int), l.length = ks.length → dotZ l.reverse ks.reverse = dotZ l ks
  | [], [], _ => rfl
  | x :: l, k :: ks, h => by
    rw [List.reverse_cons, List.reverse_cons, dotZ_append _ _ _ _ (by simpa using h), dotZ_reverse l ks (by simpa using h)]
    show dotZ l ks + (x * k + 0) = x * k + dotZ l ks
    omega
theorem comeP_eq (q : Int) (hq : mayB q = true) : ∀ (l : List (Int × Int)) (ks : List Int) (a : Int × Int), l.length = ks.length → 0 ≤ a.1 → a.1 < q → 0 ≤ a.2 → a.2 < q → comeP q l ks a = ((a.1 + dotZ (l.map (·.1)) ks) % q, (a.2 + dotZ (l.map (·.2)) ks) % q)
  | [], [], a, _, h1, h2, h3, h4 => by
    show a = ((a.1 + 0) % q, (a.2 + 0) % q)
    rw [Int.add_zero, Int.add_zero, Int.emod_eq_of_lt h1 h2, Int.emod_eq_of_lt h3 h4]
  | x :: l, k :: ks, a, h, _, _, _, _ => by
    show comeP q l ks _ = _
    rw [comeP_eq q hq l ks _ (by simpa using h) (addI_bd _ _ _ hq).1 (addI_bd _ _ _ hq).2 (addI_bd _ _ _ hq).1 (addI_bd _ _ _ hq).2]
    have key : ∀ (s y d : Int), (addI s (mulI y k q) q + d) % q = (s + (y * k + d)) % q := fun s y d => by
      rw [addI_yes _ _ _ hq, mulI_yes _ _ _ hq]
      have h1 : Cg q ((s + y * k % q) % q + d) (s + (y * k + d)) := by
        refine (Cg.add ((Cg.mod q _).trans (Cg.add (Cg.refl q s) (Cg.mod q _))) (Cg.refl q d)).trans (Cg.of_eq ?_)
        omega
      exact h1
    rw [key, key]
    rfl
theorem comeP_reverse (q : Int) (hq : mayB q = true) (l : List (Int × Int)) (ks : List Int) (h : l.length = ks.length) : comeP q l.reverse ks.reverse (0, 0) = comeP q l ks (0, 0) := by
  have h0 := mayB_pos hq
  rw [comeP_eq q hq _ _ _ (by simpa using h) (Int.le_refl 0) h0 (Int.le_refl 0) h0, comeP_eq q hq _ _ _ h (Int.le_refl 0) h0 (Int.le_refl 0) h0, List.map_reverse, List.map_reverse, dotZ_reverse _ _ (by simpa using h), dotZ_reverse _ _ (by simpa using h)]
def powZ : List Int → List Int → Int
  | x :: l, k :: ks => x ^ k.toNat * powZ l ks
  | _, _ => 1
theorem powZ_append : ∀ (l ks l2 ks2 : List Int), l.length = ks.length → powZ (l ++ l2) (ks ++ ks2) = powZ l ks * powZ l2 ks2
  | [], [], _, _, _ => by simp [powZ]
  | x :: l, k :: ks, l2, ks2, h => by
    show x ^ k.toNat * powZ (l ++ l2) (ks ++ ks2) = x ^ k.toNat * powZ l ks * powZ l2 ks2
    rw [powZ_append l ks l2 ks2 (by simpa using h), Int.mul_assoc]
theorem powZ_reverse : ∀ (l ks : List Int), l.length = ks.length → powZ l.reverse ks.reverse = powZ l ks
  | [], [], _ => rfl
  | x :: l, k :: ks, h => by
    rw [List.reverse_cons, List.reverse_cons, powZ_append _ _ _ _ (by simpa using h), powZ_reverse l ks (by simpa using h)]
    show powZ l ks * (x ^ k.toNat * 1) = x ^ k.toNat * powZ l ks
    rw [Int.mul_one, Int.mul_comm]
theorem comeU_eq (P : Int) (hP : mayB P = true) : ∀ (l ks : List Int) (a : Int), l.length = ks.length → 0 ≤ a → a < P → comeU P l ks a = a * powZ l ks % P
  | [], [], a, _, h1, h2 => by
    show a = a * 1 % P
    rw [Int.mul_one, Int.emod_eq_of_lt h1 h2]
  | x :: l, k :: ks, a, h, _, _ => by
    have h0 := mayB_pos hP
    show comeU P l ks (timesI P [a, powI x k P]) = _
    have e : timesI P [a, powI x k P] = a * powI x k P % P := times_two_eq P _ _ hP
    rw [comeU_eq P hP l ks _ (by simpa using h) (by rw [e]; exact Int.emod_nonneg _ (by omega)) (by rw [e]; exact Int.emod_lt_of_pos _ h0), e]
    have h1 : Cg P (a * powI x k P % P * powZ l ks) (a * (x ^ k.toNat * powZ l ks)) := by
      refine (((Cg.mod P _).trans (Cg.mul_left (by unfold powI; rw [if_pos hP]; exact Cg.mod P _) a)).mul_right _).trans (Cg.of_eq ?_)
      rw [Int.mul_assoc]
    exact h1
theorem comeU_reverse (P : Int) (hP : mayB P = true) (l ks : List Int) (a : Int) (h : l.length = ks.length) (h1 : 0 ≤ a) (h2 : a < P) : comeU P l.reverse ks.reverse a = comeU P l ks a := by
  rw [comeU_eq P hP _ _ _ (by simpa using h) h1 h2, comeU_eq P hP _ _ _ h h1 h2, powZ_reverse _ _ h]
theorem times_nil_bd (P : Int) (hP : mayB P = true) : 0 ≤ timesI P [] ∧ timesI P [] < P := by
  rw [times_nil_eq P hP]
  exact ⟨Int.emod_nonneg _ (by have := mayB_pos hP; omega), Int.emod_lt_of_pos _ (mayB_pos hP)⟩
/-- The weight of a place alone. -/
theorem wlist_one {q n : Int} (hq : mayB q = true) (hq1 : 1 < q) (ha : Apart q n) (hn : n < q) (x : Int) (hx : 1 ≤ x ∧ x ≤ n) (at_ : Int) : wList q [x] at_ = [1] := by
  have hp : Places n [x] := ⟨fun y hy => by rw [List.mem_singleton.1 hy]; exact hx, by simp⟩
  unfold wList
  rw [if_pos (werr_zero hq ha hn hp (by simp) at_)]
  have h1 : (1 : Int) % q = 1 := Int.emod_eq_of_lt (by omega) hq1
  have hu : underI q [x] at_ 0 = 1 := by unfold underI; rw [prodI_eq _ hq]; exact h1
  have ho : overI q [x] at_ 0 = 1 := by unfold overI; rw [prodI_eq _ hq]; exact h1
  have hi : invI 1 q = 1 := invI_eq (by omega) hq1 (Cg.of_eq (by decide))
  show [wAt q [x] at_ 0] = [1]
  unfold wAt
  rw [hu, ho, hi, mulI_yes _ _ _ hq]
  exact congrArg (fun z => [z]) h1
end Go.Proofs.YtnjkelojkoeihaaGreatDoor

namespace Go.Proofs.YtnjkelojkoeihaaGreatDoor
open Go.RowKit

/-- Params, and members with their pairs, as a statement has them. -/
structure MemOk (p : Par) (at_ : List Int) (l : List (List (Int × Int))) : Prop where
  may : mayP p = true
  places : Places p.N at_
  some : 0 < at_.length
  len : at_.length = l.length
  rows : ∀ x ∈ l, (x.length : Int) = secretsI p
theorem nodup_le : ∀ (l s : List Int), l.Nodup → (∀ x ∈ l, x ∈ s) → l.length ≤ s.length
  | [], _, _, _ => Nat.zero_le _
  | x :: l, s, hn, hs => by
    obtain ⟨h1, h2⟩ := List.nodup_cons.1 hn
    have hx := hs x (by simp)
    have := nodup_le l (s.erase x) h2 fun y hy => (List.mem_erase_of_ne (fun e => h1 (by rw [← e]; exact hy))).2 (hs y (by simp [hy]))
    rw [List.length_erase_of_mem hx] at this
    have h3 := List.length_pos_of_mem hx
    simp only [List.length_cons]
    omega
theorem Places.len {n : Int} {xs : List Int} (h : Places n xs) (hn : n ≤ 7) : xs.length ≤ 7 := by
  refine nodup_le xs [1, 2, 3, 4, 5, 6, 7] h.2 fun x hx => ?_
  · skip
    have := h.1 x hx
    have : x = 1 ∨ x = 2 ∨ x = 3 ∨ x = 4 ∨ x = 5 ∨ x = 6 ∨ x = 7 := by omega
    rcases this with rfl | rfl | rfl | rfl | rfl | rfl | rfl <;> simp
theorem members_of {n : Int} {xs : List Int} (h : Places n xs) (hn : n ≤ 7) (h0 : 0 < xs.length) : membersB xs = true := by
  simp only [membersB, Bool.and_eq_true, decide_eq_true_eq, Bool.not_eq_true']
  refine ⟨h0, List.any_eq_false.2 fun x hx => ?_⟩
  have := h.1 x hx
  simp [memBad]
  omega
theorem sum_good {p : Par} {at_ : List Int} {l : List (List (Int × Int))} (h : MemOk p at_ l) : sumE p at_ l = 0 := by
  obtain ⟨hq, hP, ha, n1, n2, n3, t1, t2, t3, hs, k1, d1⟩ := may_apart h.may
  unfold sumE
  have ho : l.any (fun x => oddB p x) = false := List.any_eq_false.2 fun x hx => by simp [oddB, h.rows x hx]
  rw [hs, members_of h.places n2 h.some, ho, if_pos (by simp [h.len])]
  exact werr_zero hq ha n3 h.places (by have := h.places.len n2; omega) 0
theorem sum_reverse {p : Par} {at_ : List Int} {l : List (List (Int × Int))} (h : MemOk p at_ l) : sumE p at_.reverse l.reverse = 0 ∧ sumL p at_.reverse l.reverse = sumL p at_ l := by
  obtain ⟨hq, hP, ha, n1, n2, n3, t1, t2, t3, hs, k1, d1⟩ := may_apart h.may
  have hr : MemOk p at_.reverse l.reverse := ⟨h.may, h.places.rev, by simpa using h.some, by simpa using h.len, fun x hx => h.rows x (List.mem_reverse.1 hx)⟩
  refine ⟨sum_good hr, ?_⟩
  unfold sumL
  rw [if_pos (sum_good h), if_pos (sum_good hr)]
  refine List.map_congr_left fun s _ => ?_
  rw [wlist_reverse hq ha n3 h.places (by have := h.places.len n2; omega) 0, List.map_reverse]
  refine comeP_reverse _ hq _ _ ?_
  rw [List.length_map, wlist_length hq ha n3 h.places (by have := h.places.len n2; omega) 0, h.len]
theorem sum_one {p : Par} (hm : mayP p = true) (x : Int) (hx : 1 ≤ x ∧ x ≤ p.N) (th : List (Int × Int)) (ht : (th.length : Int) = secretsI p) : sumE p [x] [th] = 0 ∧ sumL p [x] [th] = th.map fun y => (y.1 % p.Q, y.2 % p.Q) := by
  obtain ⟨hq, hP, ha, n1, n2, n3, t1, t2, t3, hs, k1, d1⟩ := may_apart hm
  have h : MemOk p [x] [th] := ⟨hm, ⟨fun y hy => by rw [List.mem_singleton.1 hy]; exact hx, by simp⟩, by simp, rfl, fun y hy => by rw [List.mem_singleton.1 hy]; exact ht⟩
  have h0 := mayB_pos hq
  refine ⟨sum_good h, ?_⟩
  unfold sumL
  rw [if_pos (sum_good h), wlist_one hq (by omega) ha n3 x hx 0]
  refine List.ext_getElem (by simp; omega) fun k k1 k2 => ?_
  simp only [List.length_map, List.length_range] at k1
  have hk : k < th.length := by omega
  rw [List.getElem_map, List.getElem_range, List.getElem_map]
  show comeP p.Q [th[k]?.getD (0, 0)] [1] (0, 0) = _
  rw [List.getElem?_eq_getElem hk, Option.getD_some, comeP_eq _ hq _ _ _ rfl (Int.le_refl 0) h0 (Int.le_refl 0) h0]
  simp [dotZ]
/-- Dealers and what they dealt, as a statement has them. -/
structure Deals (p : Par) (ds : List (Int × List (List Int))) : Prop where
  may : mayP p = true
  places : Places p.N (ds.map (·.1))
  some : 0 < ds.length
  cols : ∀ d ∈ ds, (d.2.length : Int) = secretsI p ∧ ∀ c ∈ d.2, (c.length : Int) = p.T + 1
theorem coms_good {p : Par} {ds : List (Int × List (List Int))} (h : Deals p ds) : comsE p ds = 0 := by
  obtain ⟨hq, hP, ha, n1, n2, n3, t1, t2, t3, hs, k1, d1⟩ := may_apart h.may
  have hw : wrap64 (p.T + 1) = p.T + 1 := wrap64_small (by omega)
  have ho : ds.any (fun d => !((d.2.length : Int) == secretsI p) || d.2.any (shortB p)) = false := List.any_eq_false.2 fun d hd => by
    obtain ⟨c1, c2⟩ := h.cols d hd
    have : d.2.any (shortB p) = false := List.any_eq_false.2 fun c hc => by simp [shortB, hw, c2 c hc]
    simp [c1, this]
  unfold comsE
  rw [hs, ho, members_of h.places n2 (by simpa using h.some), if_pos (by simp; omega)]
  exact werr_zero hq ha n3 h.places (by have := h.places.len n2; omega) 0
theorem Deals.rev {p : Par} {ds : List (Int × List (List Int))} (h : Deals p ds) : Deals p ds.reverse := ⟨h.may, by rw [List.map_reverse]; exact h.places.rev, by simpa using h.some, fun d hd => h.cols d (List.mem_reverse.1 hd)⟩
theorem coms_reverse {p : Par} {ds : List (Int × List (List Int))} (h : Deals p ds) : comsE p ds.reverse = 0 ∧ comsL p ds.reverse = comsL p ds := by
  obtain ⟨hq, hP, ha, n1, n2, n3, t1, t2, t3, hs, k1, d1⟩ := may_apart h.may
  refine ⟨coms_good h.rev, ?_⟩
  have hl : (ds.map (·.1)).length ≤ 1024 := by have := h.places.len n2; omega
  unfold comsL
  rw [if_pos (coms_good h), if_pos (coms_good h.rev)]
  refine List.map_congr_left fun s _ => List.map_congr_left fun j _ => ?_
  rw [List.map_reverse, List.map_reverse, wlist_reverse hq ha n3 h.places hl 0]
  refine comeU_reverse _ hP _ _ _ ?_ (times_nil_bd _ hP).1 (times_nil_bd _ hP).2
  rw [List.length_map, wlist_length hq ha n3 h.places hl 0, List.length_map]
theorem coms_one {p : Par} (x : Int) (col : List (List Int)) (h : Deals p [(x, col)]) (hb : ∀ c ∈ col, ∀ y ∈ c, 0 ≤ y ∧ y < p.P) : comsE p [(x, col)] = 0 ∧ comsL p [(x, col)] = col := by
  obtain ⟨hq, hP, ha, n1, n2, n3, t1, t2, t3, hs, k1, d1⟩ := may_apart h.may
  refine ⟨coms_good h, ?_⟩
  obtain ⟨c1, c2⟩ := h.cols _ (List.mem_singleton.2 rfl)
  have hx := h.places.1 x (by simp)
  unfold comsL
  rw [if_pos (coms_good h)]
  show (List.range (secretsI p).toNat).map (fun s => (List.range (p.T + 1).toNat).map fun j => comeU p.P [(col[s]?.getD [])[j]?.getD 0] (wList p.Q [x] 0) (timesI p.P [])) = col
  rw [wlist_one hq (by omega) ha n3 x hx 0]
  refine List.ext_getElem (by simp at c1 ⊢; omega) fun s s1 s2 => ?_
  rw [List.getElem_map, List.getElem_range, List.getElem?_eq_getElem s2, Option.getD_some]
  have hc := c2 _ (List.getElem_mem s2)
  refine List.ext_getElem (by simp at hc ⊢; omega) fun j j1 j2 => ?_
  rw [List.getElem_map, List.getElem_range, List.getElem?_eq_getElem j2, Option.getD_some, comeU_eq _ hP [col[s][j]] [1] _ rfl (times_nil_bd _ hP).1 (times_nil_bd _ hP).2, times_nil_eq _ hP]
  obtain ⟨b1, b2⟩ := hb _ (List.getElem_mem s2) _ (List.getElem_mem j2)
  show 1 % p.P * (col[s][j] ^ 1 * 1) % p.P = col[s][j]
  rw [Int.pow_succ, Int.pow_zero, Int.one_mul, Int.mul_one]
  have : Cg p.P (1 % p.P * col[s][j]) col[s][j] := ((Cg.mod p.P 1).mul_right _).trans (Cg.of_eq (Int.one_mul _))
  unfold Cg at this
  rw [this]
  exact Int.emod_eq_of_lt b1 b2
end Go.Proofs.YtnjkelojkoeihaaGreatDoor

namespace Go.Proofs.YtnjkelojkoeihaaGreatDoor

/-- The value of a polynomial at i. -/
def evZ (i : Int) : List Int → Int
  | [] => 0
  | x :: l => x + i * evZ i l
theorem valGo_ev {Q i : Int} (hQ : mayB Q = true) : ∀ (l : List (Int × Int)) (v : Int × Int) (e : Int), 0 ≤ v.1 → v.1 < Q → 0 ≤ v.2 → v.2 < Q → valGo Q i l v e = ((v.1 + e * evZ i (l.map (·.1))) % Q, (v.2 + e * evZ i (l.map (·.2))) % Q)
  | [], v, e, h1, h2, h3, h4 => by
    show v = ((v.1 + e * 0) % Q, (v.2 + e * 0) % Q)
    rw [Int.mul_zero, Int.add_zero, Int.add_zero, Int.emod_eq_of_lt h1 h2, Int.emod_eq_of_lt h3 h4]
  | y :: l, v, e, _, _, _, _ => by
    show valGo Q i l (addI v.1 (mulI y.1 e Q) Q, addI v.2 (mulI y.2 e Q) Q) (mulI e i Q) = ((v.1 + e * (y.1 + i * evZ i (l.map (·.1)))) % Q, (v.2 + e * (y.2 + i * evZ i (l.map (·.2)))) % Q)
    rw [valGo_ev hQ l _ _ (addI_bd _ _ _ hQ).1 (addI_bd _ _ _ hQ).2 (addI_bd _ _ _ hQ).1 (addI_bd _ _ _ hQ).2]
    have key : ∀ (s z d : Int), (addI s (mulI z e Q) Q + mulI e i Q * d) % Q = (s + e * (z + i * d)) % Q := fun s z d => by
      rw [addI_yes _ _ _ hQ, mulI_yes _ _ _ hQ, mulI_yes _ _ _ hQ]
      have h1 : Cg Q ((s + z * e % Q) % Q + e * i % Q * d) (s + e * (z + i * d)) := by
        refine (Cg.add ((Cg.mod Q _).trans (Cg.add (Cg.refl Q s) (Cg.mod Q _))) ((Cg.mod Q _).mul_right d)).trans (Cg.of_eq ?_)
        rw [Int.mul_add, Int.mul_comm z e, Int.mul_assoc, Int.add_assoc]
      exact h1
    rw [key, key]
theorem dotZ_lin {α : Type} (i : Int) (f g : α → Int) : ∀ (M : List α) (ks : List Int), dotZ (M.map fun r => f r + i * g r) ks = dotZ (M.map f) ks + i * dotZ (M.map g) ks
  | [], _ => by simp [dotZ]
  | _ :: _, [] => by simp [dotZ]
  | r :: M, k :: ks => by
    show (f r + i * g r) * k + dotZ (M.map fun r => f r + i * g r) ks = f r * k + dotZ (M.map f) ks + i * (g r * k + dotZ (M.map g) ks)
    rw [dotZ_lin i f g M ks, Int.add_mul, Int.mul_add, Int.mul_assoc]
    omega
theorem dotZ_zero {α : Type} : ∀ (M : List α) (ks : List Int), dotZ (M.map fun _ => (0 : Int)) ks = 0
  | [], _ => by simp [dotZ]
  | _ :: _, [] => by simp [dotZ]
  | r :: M, k :: ks => by
    show 0 * k + dotZ (M.map fun _ => (0 : Int)) ks = 0
    rw [dotZ_zero M ks]
    omega
theorem dotZ_cg {α : Type} {Q : Int} (f g : α → Int) (h : ∀ r, Cg Q (f r) (g r)) : ∀ (M : List α) (ks : List Int), Cg Q (dotZ (M.map f) ks) (dotZ (M.map g) ks)
  | [], _ => Cg.refl _ _
  | _ :: _, [] => Cg.refl _ _
  | r :: M, k :: ks => ((h r).mul_right k).add (dotZ_cg f g h M ks)
theorem evZ_cg {Q i : Int} {α : Type} (f g : α → Int) (h : ∀ r, Cg Q (f r) (g r)) : ∀ M : List α, Cg Q (evZ i (M.map f)) (evZ i (M.map g))
  | [] => Cg.refl _ _
  | r :: M => (h r).add ((evZ_cg f g h M).mul_left i)
/-- A sum of polynomials' values is the value of their sum. -/
theorem lin (i : Int) : ∀ (t : Nat) (M : List (List Int)) (ks : List Int), (∀ r ∈ M, r.length = t) → dotZ (M.map (evZ i)) ks = evZ i ((List.range t).map fun j => dotZ (M.map fun r => r[j]?.getD 0) ks)
  | 0, M, ks, h => by
    have e : M.map (evZ i) = M.map fun _ => (0 : Int) := List.map_congr_left fun r hr => by
      have := List.eq_nil_of_length_eq_zero (h r hr)
      subst this
      rfl
    rw [e, dotZ_zero]
    rfl
  | t + 1, M, ks, h => by
    have e1 : M.map (evZ i) = M.map fun r => r[0]?.getD 0 + i * evZ i r.tail := List.map_congr_left fun r hr => by
      cases r with
      | nil => have := h _ hr; simp at this
      | cons x r => rfl
    have e2 : (M.map fun r => evZ i r.tail) = (M.map List.tail).map (evZ i) := by rw [List.map_map]; rfl
    have e3 : ∀ j : Nat, (M.map fun r => r[j + 1]?.getD 0) = (M.map List.tail).map fun r => r[j]?.getD 0 := fun j => by
      rw [List.map_map]
      refine List.map_congr_left fun r hr => ?_
      cases r with
      | nil => have := h _ hr; simp at this
      | cons x r => rfl
    rw [List.range_succ_eq_map, List.map_cons, List.map_map, e1, dotZ_lin i (fun r : List Int => r[0]?.getD 0) (fun r => evZ i r.tail), e2, lin i t (M.map List.tail) ks (fun r hr => by
      obtain ⟨r', hr', rfl⟩ := List.mem_map.1 hr
      have := h r' hr'
      simp
      omega)]
    show _ = dotZ (M.map fun r => r[0]?.getD 0) ks + i * evZ i ((List.range t).map ((fun j => dotZ (M.map fun r => r[j]?.getD 0) ks) ∘ Nat.succ))
    congr 2
    congr 1
    refine List.map_congr_left fun j _ => ?_
    show _ = dotZ (M.map fun r => r[j + 1]?.getD 0) ks
    rw [e3]
/-- What commitments come to. -/
theorem come_commits {p : Par} (h : Good p) : ∀ (l : List (Int × Int)) (ks : List Int) (a : Int × Int), (∀ y ∈ l, 0 ≤ y.1 ∧ 0 ≤ y.2) → (∀ k ∈ ks, 0 ≤ k) → 0 ≤ a.1 → 0 ≤ a.2 → comeU p.P (l.map (commitI p)) ks (commitI p a) = commitI p (comeP p.Q l ks a)
  | [], _, _, _, _, _, _ => by simp [comeU, comeP]
  | _ :: _, [], _, _, _, _, _ => by simp [comeU, comeP]
  | y :: l, k :: ks, a, hl, hk, a1, a2 => by
    obtain ⟨y1, y2⟩ := hl y (by simp)
    have k0 := hk k (by simp)
    have m1 := (mulI_bd y.1 k p.Q h.Q).1
    have m2 := (mulI_bd y.2 k p.Q h.Q).1
    show comeU p.P (l.map (commitI p)) ks (timesI p.P [commitI p a, powI (commitI p y) k p.P]) = commitI p (comeP p.Q l ks (addI a.1 (mulI y.1 k p.Q) p.Q, addI a.2 (mulI y.2 k p.Q) p.Q))
    rw [sums_2 h y k y1 y2 k0, sums_1 h a (mulI y.1 k p.Q, mulI y.2 k p.Q) a1 a2 m1 m2]
    exact come_commits h l ks _ (fun z hz => hl z (List.mem_cons_of_mem _ hz)) (fun z hz => hk z (List.mem_cons_of_mem _ hz)) (addI_bd _ _ _ h.Q).1 (addI_bd _ _ _ h.Q).1
/-- One secret: the pair that shares come to, and the numbers that commitments come to. -/
theorem fit_one {p : Par} (h : Good p) {i : Int} (hi : 0 ≤ i) {t : Nat} {M : List (List (Int × Int))} {ks : List Int} (hM : ∀ l ∈ M, l.length = t ∧ ∀ y ∈ l, 0 ≤ y.1 ∧ 0 ≤ y.2) (hk : ∀ k ∈ ks, 0 ≤ k) (hlen : M.length = ks.length) :
    atI p ((List.range t).map fun j => comeU p.P (M.map fun l => commitI p (l[j]?.getD (0, 0))) ks (timesI p.P [])) i = commitI p (comeP p.Q (M.map fun l => valGo p.Q i l (0, 0) 1) ks (0, 0)) := by
  have h0 := mayB_pos h.Q
  have e1 : ((List.range t).map fun j => comeU p.P (M.map fun l => commitI p (l[j]?.getD (0, 0))) ks (timesI p.P [])) = ((List.range t).map fun j => comeP p.Q (M.map fun l => l[j]?.getD (0, 0)) ks (0, 0)).map (commitI p) := by
    rw [List.map_map]
    refine List.map_congr_left fun j hj => ?_
    show _ = commitI p (comeP p.Q (M.map fun l => l[j]?.getD (0, 0)) ks (0, 0))
    rw [← come_commits h _ ks (0, 0) (fun y hy => by
      obtain ⟨l, hl, rfl⟩ := List.mem_map.1 hy
      have hj' := List.mem_range.1 hj
      have hj2 : j < l.length := by rw [(hM l hl).1]; exact hj'
      rw [List.getElem?_eq_getElem hj2]
      exact (hM l hl).2 _ (List.getElem_mem hj2)) hk (Int.le_refl 0) (Int.le_refl 0), commit_zero h, List.map_map]
    rfl
  have e2 : ∀ (l : List (List (Int × Int))) (f : List (Int × Int) → Int × Int), l.length = ks.length → comeP p.Q (l.map f) ks (0, 0) = (dotZ (l.map fun x => (f x).1) ks % p.Q, dotZ (l.map fun x => (f x).2) ks % p.Q) := fun l f hl => by
    rw [comeP_eq p.Q h.Q _ ks (0, 0) (by simpa using hl) (Int.le_refl 0) h0 (Int.le_refl 0) h0, List.map_map, List.map_map, Int.zero_add, Int.zero_add]
    rfl
  rw [e1, at_commits h i hi _ (fun y hy => by
    obtain ⟨j, _, rfl⟩ := List.mem_map.1 hy
    rw [e2 M _ hlen]
    exact ⟨Int.emod_nonneg _ (by omega), Int.emod_nonneg _ (by omega)⟩)]
  congr 1
  rw [valGo_ev h.Q _ (0, 0) 1 (Int.le_refl 0) h0 (Int.le_refl 0) h0, e2 M _ hlen, List.map_map, List.map_map, Int.zero_add, Int.one_mul, Int.zero_add, Int.one_mul]
  have half : ∀ (g : Int × Int → Int) (hg : g (0, 0) = 0) (f : List (Int × Int) → Int) (hf : ∀ l, Cg p.Q (f l) (evZ i (l.map g))) (c : Nat → Int) (hc : ∀ j, Cg p.Q (c j) (dotZ (M.map fun l => g (l[j]?.getD (0, 0))) ks)), evZ i ((List.range t).map c) % p.Q = dotZ (M.map f) ks % p.Q := fun g hg f hf c hc => by
    have a1 : Cg p.Q (evZ i ((List.range t).map c)) (evZ i ((List.range t).map fun j => dotZ (M.map fun l => g (l[j]?.getD (0, 0))) ks)) := evZ_cg c _ hc _
    have a2 : Cg p.Q (dotZ (M.map f) ks) (dotZ (M.map fun l => evZ i (l.map g)) ks) := dotZ_cg f _ hf M ks
    have a3 := lin i t (M.map fun l => l.map g) ks (fun r hr => by
      obtain ⟨l, hl, rfl⟩ := List.mem_map.1 hr
      rw [List.length_map]
      exact (hM l hl).1)
    rw [List.map_map] at a3
    have a4 : ((List.range t).map fun j => dotZ ((M.map fun l => l.map g).map fun r => r[j]?.getD 0) ks) = (List.range t).map fun j => dotZ (M.map fun l => g (l[j]?.getD (0, 0))) ks := List.map_congr_left fun j _ => by
      rw [List.map_map]
      congr 1
      refine List.map_congr_left fun l _ => ?_
      show ((l.map g)[j]?).getD 0 = g (l[j]?.getD (0, 0))
      rw [List.getElem?_map]
      cases l[j]? with
      | none => exact hg.symm
      | some y => rfl
    rw [a4] at a3
    exact a1.trans ((Cg.of_eq a3.symm).trans a2.symm)
  have v1 : ∀ l : List (Int × Int), Cg p.Q (valGo p.Q i l (0, 0) 1).1 (evZ i (l.map (·.1))) := fun l => by
    rw [valGo_ev h.Q l (0, 0) 1 (Int.le_refl 0) h0 (Int.le_refl 0) h0, Int.zero_add, Int.one_mul]
    exact Cg.mod _ _
  have v2 : ∀ l : List (Int × Int), Cg p.Q (valGo p.Q i l (0, 0) 1).2 (evZ i (l.map (·.2))) := fun l => by
    rw [valGo_ev h.Q l (0, 0) 1 (Int.le_refl 0) h0 (Int.le_refl 0) h0, Int.zero_add, Int.zero_add, Int.one_mul, Int.one_mul]
    exact Cg.mod _ _
  refine Prod.ext ?_ ?_
  · exact half (·.1) rfl _ v1 _ (fun j => by
      show Cg p.Q (comeP p.Q (M.map fun l => l[j]?.getD (0, 0)) ks (0, 0)).1 _
      rw [e2 M _ hlen]
      exact Cg.mod _ _)
  · exact half (·.2) rfl _ v2 _ (fun j => by
      show Cg p.Q (comeP p.Q (M.map fun l => l[j]?.getD (0, 0)) ks (0, 0)).2 _
      rw [e2 M _ hlen]
      exact Cg.mod _ _)
end Go.Proofs.YtnjkelojkoeihaaGreatDoor

namespace Go.Proofs.YtnjkelojkoeihaaGreatDoor
open Go Go.RowKit

theorem is_commit' {p : Par} (h : Good p) (x : Int × Int) (_ : 0 ≤ x.1) (_ : 0 ≤ x.2) : isB p (commitI p x) = true := by
  have hP := may_bds h.P
  have hP2 := h.P2
  have e := commit_eq p x h.P
  have h0 : 0 ≤ commitI p x := by rw [e]; exact Int.emod_nonneg _ (by omega)
  have h1 : commitI p x < p.P := by rw [e]; exact Int.emod_lt_of_pos _ (by omega)
  have hc : Cg p.P (commitI p x ^ p.Q.toNat) 1 := by
    refine ((commit_cg p x h.P).pow _).trans ?_
    rw [Int.mul_pow, ← Int.pow_mul, ← Int.pow_mul, Nat.mul_comm x.1.toNat, Nat.mul_comm x.2.toNat, Int.pow_mul, Int.pow_mul]
    exact ((h.G.pow _).mul (h.H.pow _)).trans (Cg.of_eq (by rw [Int.one_pow, Int.one_pow]; rfl))
  have hp : powI (commitI p x) p.Q p.P = 1 := by
    rw [powI_yes _ _ _ h.P]
    unfold Cg at hc
    rw [hc, Int.emod_eq_of_lt (by decide) (by omega)]
  have hne : commitI p x ≠ 0 := by
    intro e0
    rw [e0] at hc
    have hQ : p.Q.toNat ≠ 0 := by have := h.Q2; omega
    rw [Int.zero_pow hQ] at hc
    unfold Cg at hc
    rw [Int.emod_eq_of_lt (a := 1) (by decide) (by omega)] at hc
    simp at hc
  simp only [isB, hp, Bool.and_eq_true, decide_eq_true_eq, beq_self_eq_true, and_true]
  omega
theorem wlist_pos {q : Int} (hq : mayB q = true) (xs : List Int) (at_ : Int) : ∀ k ∈ wList q xs at_, 0 ≤ k := by
  intro k hk
  unfold wList at hk
  split at hk
  · obtain ⟨i, _, rfl⟩ := List.mem_map.1 hk
    exact (mulI_bd _ _ _ hq).1
  · simp at hk
def dealersI (many : Nat) : List Int := (List.range many).map fun k => ((k + 1 : Nat) : Int)
def gotI (p : Par) (i : Int) (poly : Nat → Nat → List (Int × Int)) (nn many : Nat) : List (List (Int × Int)) := (List.range many).map fun k => (List.range nn).map fun s => valGo p.Q i (poly k s) (0, 0) 1
def fitD (p : Par) (poly : Nat → Nat → List (Int × Int)) (nn many : Nat) : List (Int × List (List Int)) := (List.range many).map fun k => (((k + 1 : Nat) : Int), (List.range nn).map fun s => (poly k s).map (commitI p))
theorem fitD_fst (p : Par) (poly : Nat → Nat → List (Int × Int)) (nn many : Nat) : (fitD p poly nn many).map (·.1) = dealersI many := by
  unfold fitD dealersI
  rw [List.map_map]
  rfl
theorem dealers_places {n : Int} {many : Nat} (h : (many : Int) ≤ n) : Places n (dealersI many) := by
  refine ⟨fun x hx => ?_, ?_⟩
  · obtain ⟨k, hk, rfl⟩ := List.mem_map.1 hx
    have := List.mem_range.1 hk
    omega
  · refine List.pairwise_map.2 (List.Pairwise.imp (R := (· < ·)) (fun {a b} hab => ?_) List.pairwise_lt_range)
    intro e
    have : (a : Int) + 1 = (b : Int) + 1 := by simpa using e
    omega
theorem getD_range {α : Type} (f : Nat → α) (d : α) {s n : Nat} (h : s < n) : ((List.range n).map f)[s]?.getD d = f s := by simp [h]
theorem fits_law {p : Par} (hm : mayP p = true) {many nn t : Nat} (h1 : 1 ≤ many) (h2 : (many : Int) ≤ p.N) (hn : (nn : Int) = secretsI p) (ht : (t : Int) = p.T + 1) {i : Int} (hi : 0 ≤ i) {poly : Nat → Nat → List (Int × Int)}
    (hp : ∀ k s, (poly k s).length = t ∧ ∀ y ∈ poly k s, 0 ≤ y.1 ∧ 0 ≤ y.2) :
    sumE p (dealersI many) (gotI p i poly nn many) = 0 ∧ comsE p (fitD p poly nn many) = 0 ∧ formedB p (comsL p (fitD p poly nn many)) = true ∧ fitsI p (comsL p (fitD p poly nn many)) i (sumL p (dealersI many) (gotI p i poly nn many)) = true := by
  have hg := good_of hm
  obtain ⟨hq, hP, ha, n1, n2, n3, t1, t2, t3, hs, k1, d1⟩ := may_apart hm
  have hpl : Places p.N (dealersI many) := dealers_places h2
  have hdl : (dealersI many).length = many := by simp [dealersI]
  have hM : MemOk p (dealersI many) (gotI p i poly nn many) := ⟨hm, hpl, by omega, by rw [hdl]; simp [gotI], fun x hx => by
    obtain ⟨k, _, rfl⟩ := List.mem_map.1 hx
    rw [← hn]
    simp⟩
  have hD : Deals p (fitD p poly nn many) := ⟨hm, by rw [fitD_fst]; exact hpl, by simp [fitD]; omega, fun d hd => by
    obtain ⟨k, _, rfl⟩ := List.mem_map.1 hd
    refine ⟨by rw [← hn]; simp, fun c hc => ?_⟩
    obtain ⟨s, _, rfl⟩ := List.mem_map.1 (show c ∈ (List.range nn).map fun s => (poly k s).map (commitI p) from hc)
    rw [← ht, List.length_map, (hp k s).1]⟩
  have e1 := sum_good hM
  have e2 := coms_good hD
  have hk : ∀ k ∈ wList p.Q (dealersI many) 0, 0 ≤ k := wlist_pos hq _ _
  have hkl : (wList p.Q (dealersI many) 0).length = many := by rw [wlist_length hq ha n3 hpl (by omega) 0, hdl]
  have hc : comsL p (fitD p poly nn many) = (List.range nn).map fun s => (List.range t).map fun j => comeU p.P (((List.range many).map fun k => poly k s).map fun l => commitI p (l[j]?.getD (0, 0))) (wList p.Q (dealersI many) 0) (timesI p.P []) := by
    unfold comsL
    rw [if_pos e2, ← hn, ← ht, Int.toNat_natCast, Int.toNat_natCast, fitD_fst]
    refine List.map_congr_left fun s hs => List.map_congr_left fun j hj => ?_
    congr 1
    unfold fitD
    rw [List.map_map, List.map_map]
    refine List.map_congr_left fun k _ => ?_
    show ((((List.range nn).map fun s => (poly k s).map (commitI p))[s]?.getD [])[j]?).getD 0 = commitI p ((poly k s)[j]?.getD (0, 0))
    have hj' : j < (poly k s).length := by rw [(hp k s).1]; exact List.mem_range.1 hj
    rw [getD_range _ _ (List.mem_range.1 hs), List.getElem?_map, List.getElem?_eq_getElem hj']
    rfl
  have hx : sumL p (dealersI many) (gotI p i poly nn many) = (List.range nn).map fun s => comeP p.Q (((List.range many).map fun k => poly k s).map fun l => valGo p.Q i l (0, 0) 1) (wList p.Q (dealersI many) 0) (0, 0) := by
    unfold sumL
    rw [if_pos e1, ← hn, Int.toNat_natCast]
    refine List.map_congr_left fun s hs => ?_
    congr 1
    unfold gotI
    rw [List.map_map, List.map_map]
    refine List.map_congr_left fun k _ => ?_
    show (((List.range nn).map fun s => valGo p.Q i (poly k s) (0, 0) 1)[s]?).getD (0, 0) = valGo p.Q i (poly k s) (0, 0) 1
    rw [getD_range _ _ (List.mem_range.1 hs)]
  have hMs : ∀ s, ∀ l ∈ (List.range many).map fun k => poly k s, l.length = t ∧ ∀ y ∈ l, 0 ≤ y.1 ∧ 0 ≤ y.2 := fun s l hl => by
    obtain ⟨k, _, rfl⟩ := List.mem_map.1 hl
    exact hp k s
  have h0 := mayB_pos hq
  have hz : ∀ a b : Int, isB p (commitI p (a % p.Q, b % p.Q)) = true := fun a b => is_commit' hg _ (Int.emod_nonneg _ (by omega)) (Int.emod_nonneg _ (by omega))
  refine ⟨e1, e2, ?_, ?_⟩
  · have hw : IntKind.i64.wrap (p.T + 1) = (t : Int) := by rw [← ht]; exact IntWalk.i64_in _ (by omega)
    unfold formedB allB
    rw [hc, hw, ← hn]
    simp only [List.length_map, List.length_range, decide_true, Bool.true_and, Bool.not_eq_true', List.any_eq_false]
    intro r hr
    obtain ⟨s, _, rfl⟩ := List.mem_map.1 hr
    simp only [rowBad, List.length_map, List.length_range, Bool.or_eq_true, decide_eq_true_eq, List.any_eq_true, not_or, not_exists, not_and]
    refine ⟨by simp, fun x hx => ?_⟩
    obtain ⟨j, hj, rfl⟩ := List.mem_map.1 hx
    have hb := List.mem_range.1 hj
    have e3 : ((List.range many).map fun k => poly k s).map (fun l => commitI p (l[j]?.getD (0, 0))) = (((List.range many).map fun k => poly k s).map fun l => l[j]?.getD (0, 0)).map (commitI p) := by
      rw [List.map_map, List.map_map, List.map_map]
      rfl
    have hy : ∀ y ∈ ((List.range many).map fun k => poly k s).map (fun l => l[j]?.getD (0, 0)), 0 ≤ y.1 ∧ 0 ≤ y.2 := fun y hy => by
      obtain ⟨l, hl, rfl⟩ := List.mem_map.1 hy
      have hj2 : j < l.length := by rw [(hMs s l hl).1]; exact hb
      rw [List.getElem?_eq_getElem hj2]
      exact (hMs s l hl).2 _ (List.getElem_mem hj2)
    rw [e3, ← commit_zero hg, come_commits hg _ _ (0, 0) hy hk (Int.le_refl 0) (Int.le_refl 0)]
    rw [comeP_eq p.Q hq _ _ (0, 0) (by simp [hkl]) (Int.le_refl 0) h0 (Int.le_refl 0) h0]
    simp [hz]
  · unfold fitsI shareI
    rw [hc, hx, List.map_map, List.map_map]
    refine decide_eq_true (List.map_congr_left fun s _ => ?_)
    exact (fit_one hg hi (hMs s) hk (by simp [hkl])).symm
end Go.Proofs.YtnjkelojkoeihaaGreatDoor

namespace Go.Proofs.YtnjkelojkoeihaaGreatDoor

theorem wAt_cg {q : Int} {xs : List Int} {at_ : Int} {i : Nat} (hq : mayB q = true) (h : HasInv (underI q xs at_ i) q) : Cg q (underI q xs at_ i * wAt q xs at_ i) (overI q xs at_ i) := by
  obtain ⟨_, _, h1⟩ := invI_spec h
  refine ((mulI_cg (invI (underI q xs at_ i) q) (overI q xs at_ i) q hq).mul_left _).trans ?_
  rw [← Int.mul_assoc]
  exact (h1.mul_right _).trans (Cg.of_eq (Int.one_mul _))
theorem cg_cancel {q d s a : Int} (h : HasInv d q) (k : Cg q (d * s) (d * a)) : Cg q s a := by
  obtain ⟨x, _, _, hx⟩ := h
  have key : ∀ s : Int, Cg q (x * (d * s)) s := fun s => by
    rw [← Int.mul_assoc, Int.mul_comm x d]
    exact (hx.mul_right s).trans (Cg.of_eq (Int.one_mul s))
  exact (key s).symm.trans ((k.mul_left x).trans (key a))
theorem diff_inv {q n x y : Int} (hq : mayB q = true) (ha : Apart q n) (hx : 1 ≤ x ∧ x ≤ n) (hy : 1 ≤ y ∧ y ≤ n) (hne : x ≠ y) : HasInv (x - y) q := by
  have h0 := mayB_pos hq
  rcases Int.lt_or_gt_of_ne hne with h | h
  · have := hasInv_neg h0 (ha (y - x) (by omega) (by omega))
    rwa [show -(y - x) = x - y by omega] at this
  · exact ha (x - y) (by omega) (by omega)
theorem under2 {q : Int} (hq : mayB q = true) (x y : Int) : Cg q (underI q [x, y] 0 0) (x - y) ∧ Cg q (underI q [x, y] 0 1) (y - x) ∧ Cg q (overI q [x, y] 0 0) (0 - y) ∧ Cg q (overI q [x, y] 0 1) (0 - x) := by
  have one : ∀ a b : Int, Cg q (mulI (1 % q) (subI a b q) q) (a - b) := fun a b => by
    refine (mulI_cg _ _ _ hq).trans (((Cg.mod q 1).mul (subI_cg _ _ _ hq)).trans (Cg.of_eq (Int.one_mul _)))
  have e1 : underI q [x, y] 0 0 = mulI (1 % q) (subI x y q) q := by simp [underI, othersI, othersUp, List.range_succ, prodI]
  have e2 : underI q [x, y] 0 1 = mulI (1 % q) (subI y x q) q := by simp [underI, othersI, othersUp, List.range_succ, prodI]
  have e3 : overI q [x, y] 0 0 = mulI (1 % q) (subI 0 y q) q := by simp [overI, othersI, othersUp, List.range_succ, prodI]
  have e4 : overI q [x, y] 0 1 = mulI (1 % q) (subI 0 x q) q := by simp [overI, othersI, othersUp, List.range_succ, prodI]
  rw [e1, e2, e3, e4]
  exact ⟨one _ _, one _ _, one _ _, one _ _⟩
theorem under3 {q : Int} (hq : mayB q = true) (x y z : Int) :
    Cg q (underI q [x, y, z] 0 0) ((x - y) * (x - z)) ∧ Cg q (underI q [x, y, z] 0 1) ((y - x) * (y - z)) ∧ Cg q (underI q [x, y, z] 0 2) ((z - x) * (z - y)) ∧ Cg q (overI q [x, y, z] 0 0) ((0 - y) * (0 - z)) ∧ Cg q (overI q [x, y, z] 0 1) ((0 - x) * (0 - z)) ∧ Cg q (overI q [x, y, z] 0 2) ((0 - x) * (0 - y)) := by
  have two : ∀ a b c d : Int, Cg q (mulI (mulI (1 % q) (subI a b q) q) (subI c d q) q) ((a - b) * (c - d)) := fun a b c d => by
    refine (mulI_cg _ _ _ hq).trans (Cg.mul ?_ (subI_cg _ _ _ hq))
    exact (mulI_cg _ _ _ hq).trans (((Cg.mod q 1).mul (subI_cg _ _ _ hq)).trans (Cg.of_eq (Int.one_mul _)))
  have e1 : underI q [x, y, z] 0 0 = mulI (mulI (1 % q) (subI x y q) q) (subI x z q) q := by simp [underI, othersI, othersUp, List.range_succ, prodI]
  have e2 : underI q [x, y, z] 0 1 = mulI (mulI (1 % q) (subI y x q) q) (subI y z q) q := by simp [underI, othersI, othersUp, List.range_succ, prodI]
  have e3 : underI q [x, y, z] 0 2 = mulI (mulI (1 % q) (subI z x q) q) (subI z y q) q := by simp [underI, othersI, othersUp, List.range_succ, prodI]
  have e4 : overI q [x, y, z] 0 0 = mulI (mulI (1 % q) (subI 0 y q) q) (subI 0 z q) q := by simp [overI, othersI, othersUp, List.range_succ, prodI]
  have e5 : overI q [x, y, z] 0 1 = mulI (mulI (1 % q) (subI 0 x q) q) (subI 0 z q) q := by simp [overI, othersI, othersUp, List.range_succ, prodI]
  have e6 : overI q [x, y, z] 0 2 = mulI (mulI (1 % q) (subI 0 x q) q) (subI 0 y q) q := by simp [overI, othersI, othersUp, List.range_succ, prodI]
  rw [e1, e2, e3, e4, e5, e6]
  exact ⟨two _ _ _ _, two _ _ _ _, two _ _ _ _, two _ _ _ _, two _ _ _ _, two _ _ _ _⟩
theorem lag2 {q n x y : Int} (hq : mayB q = true) (ha : Apart q n) (hp : Places n [x, y]) (a b : Int) : Cg q ((a + x * (b + x * 0)) * wAt q [x, y] 0 0 + ((a + y * (b + y * 0)) * wAt q [x, y] 0 1 + 0)) a := by
  have i0 := under_inv hq ha hp 0 0 (by simp)
  have i1 := under_inv hq ha hp 0 1 (by simp)
  obtain ⟨u0, u1, o0, o1⟩ := under2 hq x y
  have k0 := (u0.symm.mul_right _).trans ((wAt_cg hq i0).trans o0)
  have k1 := (u1.symm.mul_right _).trans ((wAt_cg hq i1).trans o1)
  have hx := hp.1 x (by simp)
  have hy := hp.1 y (by simp)
  have hne : x ≠ y := by have := hp.2; simp at this; exact this
  generalize wAt q [x, y] 0 0 = w0 at *
  generalize wAt q [x, y] 0 1 = w1 at *
  refine cg_cancel (diff_inv hq ha hx hy hne) ?_
  have e : (x - y) * ((a + x * (b + x * 0)) * w0 + ((a + y * (b + y * 0)) * w1 + 0)) = (x - y) * w0 * (a + x * b) - (y - x) * w1 * (a + y * b) := by grind
  rw [e]
  refine ((k0.mul_right _).sub (k1.mul_right _)).trans (Cg.of_eq ?_)
  grind
theorem lag3 {q n x y z : Int} (hq : mayB q = true) (ha : Apart q n) (hp : Places n [x, y, z]) (a b c : Int) : Cg q ((a + x * (b + x * (c + x * 0))) * wAt q [x, y, z] 0 0 + ((a + y * (b + y * (c + y * 0))) * wAt q [x, y, z] 0 1 + ((a + z * (b + z * (c + z * 0))) * wAt q [x, y, z] 0 2 + 0))) a := by
  have i0 := under_inv hq ha hp 0 0 (by simp)
  have i1 := under_inv hq ha hp 0 1 (by simp)
  have i2 := under_inv hq ha hp 0 2 (by simp)
  obtain ⟨u0, u1, u2, o0, o1, o2⟩ := under3 hq x y z
  have k0 := (u0.symm.mul_right _).trans ((wAt_cg hq i0).trans o0)
  have k1 := (u1.symm.mul_right _).trans ((wAt_cg hq i1).trans o1)
  have k2 := (u2.symm.mul_right _).trans ((wAt_cg hq i2).trans o2)
  have hx := hp.1 x (by simp)
  have hy := hp.1 y (by simp)
  have hz := hp.1 z (by simp)
  have hne : x ≠ y ∧ x ≠ z ∧ y ≠ z := by have := hp.2; simp at this; exact ⟨this.1.1, this.1.2, this.2⟩
  generalize wAt q [x, y, z] 0 0 = w0 at *
  generalize wAt q [x, y, z] 0 1 = w1 at *
  generalize wAt q [x, y, z] 0 2 = w2 at *
  refine cg_cancel (diff_inv hq ha hx hy hne.1) (cg_cancel (diff_inv hq ha hx hz hne.2.1) (cg_cancel (diff_inv hq ha hy hz hne.2.2) ?_))
  have e : (y - z) * ((x - z) * ((x - y) * ((a + x * (b + x * (c + x * 0))) * w0 + ((a + y * (b + y * (c + y * 0))) * w1 + ((a + z * (b + z * (c + z * 0))) * w2 + 0))))) = (x - y) * (x - z) * w0 * ((y - z) * (a + x * (b + x * c))) - (y - x) * (y - z) * w1 * ((x - z) * (a + y * (b + y * c))) + (z - x) * (z - y) * w2 * ((x - y) * (a + z * (b + z * c))) := by grind
  rw [e]
  refine (((k0.mul_right _).sub (k1.mul_right _)).add (k2.mul_right _)).trans (Cg.of_eq ?_)
  grind
theorem len_two : ∀ {l : List Int}, l.length = 2 → ∃ x y, l = [x, y]
  | [x, y], _ => ⟨x, y, rfl⟩
theorem len_three : ∀ {l : List Int}, l.length = 3 → ∃ x y z, l = [x, y, z]
  | [x, y, z], _ => ⟨x, y, z, rfl⟩
/-- As many points as a polynomial has numbers tell its first. -/
theorem lag {q n : Int} (hq : mayB q = true) (ha : Apart q n) (hn : n < q) {xs l : List Int} (hp : Places n xs) (h : xs.length = 2 ∨ xs.length = 3) (hl : l.length = xs.length) : Cg q (dotZ (xs.map fun x => evZ x l) (wList q xs 0)) (l[0]?.getD 0) := by
  have hw : wList q xs 0 = (List.range xs.length).map (wAt q xs 0) := if_pos (werr_zero hq ha hn hp (by omega) 0)
  rw [hw]
  rcases h with h | h
  · obtain ⟨x, y, rfl⟩ : ∃ x y, xs = [x, y] := len_two h
    obtain ⟨a, b, rfl⟩ : ∃ a b, l = [a, b] := len_two hl
    exact lag2 hq ha hp a b
  · obtain ⟨x, y, z, rfl⟩ : ∃ x y z, xs = [x, y, z] := len_three h
    obtain ⟨a, b, c, rfl⟩ : ∃ a b c, l = [a, b, c] := len_three hl
    exact lag3 hq ha hp a b c
end Go.Proofs.YtnjkelojkoeihaaGreatDoor

namespace Go.Proofs.YtnjkelojkoeihaaGreatDoor
open Go Go.RowKit

/-- n unlike members of all, by a number. -/
def someI (n all which : Int) : List Int := (List.range n.toNat).map fun i : Nat => 1 + ((which % 18446744073709551616) % all + (i : Int)) % all
theorem someI_in {n all which : Int} (ha : 0 < all) : ∀ x ∈ someI n all which, 1 ≤ x ∧ x ≤ all := by
  intro x hx
  obtain ⟨i, _, rfl⟩ := List.mem_map.1 hx
  have h1 := Int.emod_nonneg ((which % 18446744073709551616) % all + (i : Int)) (show all ≠ 0 by omega)
  have h2 := Int.emod_lt_of_pos ((which % 18446744073709551616) % all + (i : Int)) ha
  omega
set_option maxHeartbeats 400000 in
theorem secrets20_any (p : Par) (w : World) :
    Calls Tryz.prog 88 #[p.v] w fun e w' => e = .returned (.int .i64 (secretsI p)) ∧ w.grownBy w' none := by
  go_enter Tryz.func88, Tryz.ntmps88
  go_wp2
  go_ret
  exact ⟨rfl, World.grownBy_alloc w _ none⟩
/-- Three lists built side by side. -/
structure Tri {α β γ : Type} (E : Enc α) (F : Enc β) (G : Enc γ) (base : Nat) (e f g : TypeId) (Z : Nat → Prop) (w : World) (v u t : Value) (xs : List α) (ys : List β) (zs : List γ) : Prop where
  fst : Acc E base e (fun b => Z b ∧ some b ≠ u.ownBlock ∧ some b ≠ t.ownBlock) w v xs
  snd : Acc F base f (fun b => Z b ∧ some b ≠ v.ownBlock ∧ some b ≠ t.ownBlock) w u ys
  trd : Acc G base g (fun b => Z b ∧ some b ≠ v.ownBlock ∧ some b ≠ u.ownBlock) w t zs
section
variable {α β γ : Type} {E : Enc α} {F : Enc β} {G : Enc γ} {base : Nat} {e f g : TypeId} {Z : Nat → Prop} {w w' : World} {v u t v' u' t' : Value} {xs xs' : List α} {ys ys' : List β} {zs zs' : List γ}
theorem Tri.kept (h : Tri E F G base e f g Z w v u t xs ys zs) (hg : w.grownBy w' none) : Tri E F G base e f g Z w' v u t xs ys zs := ⟨h.fst.kept hg, h.snd.kept hg, h.trd.kept hg⟩
theorem Tri.rot (h : Tri E F G base e f g Z w v u t xs ys zs) : Tri F G E base f g e Z w u t v ys zs xs := ⟨h.snd.more fun _ _ x => ⟨x.1, x.2.2, x.2.1⟩, h.trd.more fun _ _ x => ⟨x.1, x.2.2, x.2.1⟩, h.fst⟩
theorem Tri.one (h : Tri E F G base e f g Z w v u t xs ys zs) (ha : Acc E base e (fun b => Z b ∧ some b ≠ u.ownBlock ∧ some b ≠ t.ownBlock) w' v' xs') (hg : w.grownBy w' v.ownBlock) (hm : Moved w v v') : Tri E F G base e f g Z w' v' u t xs' ys zs := by
  have k : ∀ b, b < w.heap.size → some b ≠ v.ownBlock → some b ≠ v'.ownBlock := fun b hb hx e => hm.ne hb (fun e' => hx e'.symm) e.symm
  refine ⟨ha, ?_, ?_⟩
  · have h1 : Acc F base f (fun b => (Z b ∧ some b ≠ v'.ownBlock ∧ some b ≠ t.ownBlock) ∧ some b ≠ v.ownBlock) w u ys := h.snd.more fun b hb hx => ⟨⟨hx.1, k b hb hx.2.1, hx.2.2⟩, hx.2.1⟩
    exact (h1.keep hg fun g hx => hx.2).more fun g _ hx => hx.1
  · have h1 : Acc G base g (fun b => (Z b ∧ some b ≠ v'.ownBlock ∧ some b ≠ u.ownBlock) ∧ some b ≠ v.ownBlock) w t zs := h.trd.more fun b hb hx => ⟨⟨hx.1, k b hb hx.2.1, hx.2.2⟩, hx.2.1⟩
    exact (h1.keep hg fun g hx => hx.2).more fun g _ hx => hx.1
theorem Tri.two (h : Tri E F G base e f g Z w v u t xs ys zs) (ha : Acc F base f (fun b => Z b ∧ some b ≠ v.ownBlock ∧ some b ≠ t.ownBlock) w' u' ys') (hg : w.grownBy w' u.ownBlock) (hm : Moved w u u') : Tri E F G base e f g Z w' v u' t xs ys' zs := ((h.rot.one (ha.more fun _ _ x => ⟨x.1, x.2.2, x.2.1⟩) hg hm).rot.rot)
theorem Tri.three (h : Tri E F G base e f g Z w v u t xs ys zs) (ha : Acc G base g (fun b => Z b ∧ some b ≠ v.ownBlock ∧ some b ≠ u.ownBlock) w' t' zs') (hg : w.grownBy w' t.ownBlock) (hm : Moved w t t') : Tri E F G base e f g Z w' v u t' xs ys zs' := ((h.rot.rot.one (ha.more fun _ _ x => x) hg hm).rot)
theorem Tri.nil (E : Enc α) (F : Enc β) (G : Enc γ) (base : Nat) (e f g : TypeId) (Z : Nat → Prop) (w : World) : Tri E F G base e f g Z w (.slice none 0 0) (.slice none 0 0) (.slice none 0 0) [] [] [] := ⟨Acc.nil _ _ _ _ _, Acc.nil _ _ _ _ _, Acc.nil _ _ _ _ _⟩
theorem Tri.new1 (h : Tri E F G base e f g Z w v u t xs ys zs) (hZ : ∀ b, w.heap.size ≤ b → Z b) : ∀ b, w.heap.size ≤ b → Z b ∧ some b ≠ u.ownBlock ∧ some b ≠ t.ownBlock := fun b hb => ⟨hZ b hb, fun e => by have := (h.snd.lt b e.symm).2; omega, fun e => by have := (h.trd.lt b e.symm).2; omega⟩
theorem Tri.new2 (h : Tri E F G base e f g Z w v u t xs ys zs) (hZ : ∀ b, w.heap.size ≤ b → Z b) : ∀ b, w.heap.size ≤ b → Z b ∧ some b ≠ v.ownBlock ∧ some b ≠ t.ownBlock := fun b hb => ⟨hZ b hb, fun e => by have := (h.fst.lt b e.symm).2; omega, fun e => by have := (h.trd.lt b e.symm).2; omega⟩
theorem Tri.new3 (h : Tri E F G base e f g Z w v u t xs ys zs) (hZ : ∀ b, w.heap.size ≤ b → Z b) : ∀ b, w.heap.size ≤ b → Z b ∧ some b ≠ v.ownBlock ∧ some b ≠ u.ownBlock := fun b hb => ⟨hZ b hb, fun e => by have := (h.fst.lt b e.symm).2; omega, fun e => by have := (h.snd.lt b e.symm).2; omega⟩
end
end Go.Proofs.YtnjkelojkoeihaaGreatDoor

namespace Go.Proofs.YtnjkelojkoeihaaGreatDoor
open Go.RowKit

theorem evalI_cons' (q : Int) (y : Int) (c : List Int) (x : Int) : evalI q (y :: c) x = addI (mulI (evalI q c x) x q) y q := by simp [evalI, evalGo]
theorem evalI_cg' {q : Int} (hq : mayB q = true) (x : Int) : ∀ (c : List Int), Cg q (evalI q c x) (evZ x c)
  | [] => Cg.refl _ _
  | y :: c => by
    rw [evalI_cons', addI_yes _ _ _ hq, mulI_yes _ _ _ hq]
    refine (Cg.mod _ _).trans (((Cg.mod _ _).trans ((evalI_cg' hq x c).mul_right x)).add (Cg.refl _ y) |>.trans (Cg.of_eq ?_))
    show evZ x c * x + y = y + x * evZ x c
    rw [Int.mul_comm, Int.add_comm]
theorem places_some (k : Nat) (n which : Int) (hn : 1 ≤ n) (hk : (k : Int) ≤ n) : Places n (someI k n which) := by
  refine ⟨someI_in (by omega), ?_⟩
  unfold someI
  rw [Int.toNat_natCast]
  obtain ⟨r, hr⟩ : ∃ r, r = which % 18446744073709551616 % n := ⟨_, rfl⟩
  rw [← hr]
  refine List.pairwise_map.2 (List.Pairwise.imp_of_mem (R := (· < ·)) (fun {a b} ha hb hab => ?_) List.pairwise_lt_range)
  have h1 := List.mem_range.1 ha
  have h2 := List.mem_range.1 hb
  intro e
  have e' : (r + (a : Int)) % n = (r + (b : Int)) % n := by omega
  have hd : n ∣ (r + (b : Int)) - (r + (a : Int)) := Int.dvd_of_emod_eq_zero (by rw [Int.sub_emod, e', Int.sub_self]; rfl)
  obtain ⟨q, hq⟩ := hd
  have h3 : (b : Int) - a = n * q := by omega
  have hq0 : 0 < q := by
    rcases Int.lt_or_le 0 q with h | h
    · exact h
    · have := Int.mul_le_mul_of_nonneg_left h (show (0 : Int) ≤ n by omega)
      omega
  have := Int.mul_le_mul_of_nonneg_left (show (1 : Int) ≤ q by omega) (show (0 : Int) ≤ n by omega)
  omega
/-- What member i has of a dealing. -/
def dealtI (p : Par) (F R : List (List Int)) (i : Int) : List (Int × Int) := (List.range F.length).map fun s => (evalI p.Q (F[s]?.getD []) i, evalI p.Q (R[s]?.getD []) i)
/-- The shares of T + 1 members come to what the polynomials are at 0. -/
theorem who_sum {p : Par} (hm : mayP p = true) (which : Int) {t : Nat} (ht : (t : Int) = p.T + 1) (F R : List (List Int)) (hF : (F.length : Int) = secretsI p) (hl : ∀ f ∈ F, f.length = t) :
    sumE p (someI t p.N which) ((someI t p.N which).map (dealtI p F R)) = 0 ∧ (sumL p (someI t p.N which) ((someI t p.N which).map (dealtI p F R))).map (·.1) = F.map fun f => (f[0]?.getD 0) % p.Q := by
  obtain ⟨hq, hP, ha, n1, n2, n3, t1, t2, t3, hs, k1, d1⟩ := may_apart hm
  obtain ⟨at_, hat⟩ : ∃ a, a = someI t p.N which := ⟨_, rfl⟩
  have hpl : Places p.N at_ := by rw [hat]; exact places_some t p.N which (by omega) (by omega)
  have hlen : at_.length = t := by rw [hat]; simp [someI]
  rw [← hat]
  have hmem : MemOk p at_ (at_.map (dealtI p F R)) := ⟨hm, hpl, by omega, by simp, fun x hx => by
    obtain ⟨i, _, rfl⟩ := List.mem_map.1 hx
    simpa [dealtI] using hF⟩
  refine ⟨sum_good hmem, ?_⟩
  have h0 := mayB_pos hq
  have hw := wlist_length hq ha n3 hpl (by omega) 0
  unfold sumL
  rw [if_pos (sum_good hmem), List.map_map, ← hF, Int.toNat_natCast]
  refine List.ext_getElem (by simp) fun s s1 s2 => ?_
  have hsF : s < F.length := by simpa using s2
  rw [List.getElem_map, List.getElem_range, List.getElem_map]
  show (comeP p.Q ((at_.map (dealtI p F R)).map fun x => x[s]?.getD (0, 0)) (wList p.Q at_ 0) (0, 0)).1 = _
  rw [comeP_eq _ hq _ _ _ (by simp [hw]) (Int.le_refl 0) h0 (Int.le_refl 0) h0]
  show (0 + dotZ (((at_.map (dealtI p F R)).map fun x => x[s]?.getD (0, 0)).map (·.1)) (wList p.Q at_ 0)) % p.Q = _
  rw [Int.zero_add, List.map_map, List.map_map]
  have e1 : at_.map (((·.1) ∘ (fun x : List (Int × Int) => x[s]?.getD (0, 0))) ∘ dealtI p F R) = at_.map fun i => evalI p.Q F[s] i := List.map_congr_left fun i _ => by
    simp [dealtI, hsF]
  rw [e1]
  have h1 := dotZ_cg (fun i => evalI p.Q F[s] i) (fun i => evZ i F[s]) (fun i => evalI_cg' hq i F[s]) at_ (wList p.Q at_ 0)
  have h2 := lag hq ha n3 hpl (by omega) (l := F[s]) (by rw [hlen, hl _ (List.getElem_mem hsF)])
  exact h1.trans h2
/-- The number at a place of a list, as the law draws it. -/
def drw (l : List Int) (M : Int) (a : Nat) : Int := Int.tmod (if 0 < l.length then l[a % l.length]?.getD 0 else Int.tmod (a : Int) 3) (M + 1)
theorem drw_bd (l : List Int) {M : Int} (hM : 1 ≤ M) (a : Nat) : -M ≤ drw l M a ∧ drw l M a ≤ M := by
  unfold drw
  generalize (if 0 < l.length then l[a % l.length]?.getD 0 else Int.tmod (a : Int) 3) = x
  have h1 : (Int.tmod x (M + 1)).natAbs = x.natAbs % (M + 1).natAbs := Int.natAbs_tmod x (M + 1)
  have h2 : x.natAbs % (M + 1).natAbs < (M + 1).natAbs := Nat.mod_lt _ (by omega)
  omega
theorem fixI_back {q d M : Int} (hq : mayB q = true) (hd : -M ≤ d ∧ d ≤ M) (hM : 2 * M < q) : fixI (d % q) q = d := by
  have h0 := mayB_pos hq
  have e : addI (d % q) 0 q = d % q := by rw [addI_yes _ _ _ hq, Int.add_zero]; exact Cg.mod q d
  unfold fixI
  rw [if_neg (by omega), e]
  rcases Int.lt_or_le d 0 with h | h
  · have : d % q = d + q := by
      have h1 : (d + q) % q = d % q := by simp
      rw [← h1]
      exact Int.emod_eq_of_lt (by omega) (by omega)
    rw [this, if_neg (by omega)]
    omega
  · have : d % q = d := Int.emod_eq_of_lt h (by omega)
    rw [this, if_pos (by omega)]
def whoW (p : Par) (l : List Int) : List (List Int) := (List.range p.K.toNat).map fun k => (List.range p.D.toNat).map fun d => drw l p.M (k * (p.D.toNat + 1) + d)
def whoB (p : Par) (l : List Int) : List Int := (List.range p.K.toNat).map fun k => drw l p.M (k * (p.D.toNat + 1) + p.D.toNat)
/-- The secrets, as numbers. -/
def whoS (p : Par) (l : List Int) : List Int := (List.range (secretsI p).toNat).map fun a => drw l p.M a % p.Q
theorem may_sizes {p : Par} (h : mayP p = true) : 1 ≤ p.K ∧ p.K ≤ 2 ∧ 1 ≤ p.D ∧ p.D ≤ 4 ∧ 1 ≤ p.M ∧ p.M ≤ 1048576 ∧ 2 * p.M < p.Q ∧ 1 ≤ p.X ∧ p.X ≤ 1048576 ∧ p.Q ≤ 2305843009213693952 := by
  have hh := h
  simp only [mayP, m5, m7, m8, m9, Bool.and_eq_true, withinB_iff, decide_eq_true_eq] at hh
  obtain ⟨⟨⟨⟨⟨⟨_, a5⟩, _⟩, a7⟩, a8⟩, a9⟩, _⟩ := hh
  obtain ⟨⟨k1, k2⟩, d1, d2⟩ := a5
  obtain ⟨⟨M1, M2⟩, x1, x2⟩ := a7
  have hQ : p.Q ≤ 2305843009213693952 := by
    have hq := a9.1
    unfold primeB at hq
    split at hq
    · cases hq
    · omega
  have h1 : 0 ≤ p.D * p.M * p.X := Int.mul_nonneg (Int.mul_nonneg (by omega) (by omega)) (by omega)
  exact ⟨k1, k2, d1, d2, M1, M2, by omega, x1, x2, hQ⟩
theorem secretsI_eq {p : Par} (h : mayP p = true) : secretsI p = ((p.K.toNat * (p.D.toNat + 1) : Nat) : Int) := by
  obtain ⟨k1, k2, d1, d2, _⟩ := may_sizes h
  have hk : p.K = 1 ∨ p.K = 2 := by omega
  have hd : p.D = 1 ∨ p.D = 2 ∨ p.D = 3 ∨ p.D = 4 := by omega
  unfold secretsI
  rcases hk with hk | hk <;> rcases hd with hd | hd | hd | hd <;> rw [hk, hd] <;> decide +kernel
theorem who_model {p : Par} (hm : mayP p = true) (l : List Int) : modelE p (whoS p l) = 0 ∧ modelW p (whoS p l) = whoW p l ∧ modelB p (whoS p l) = whoB p l := by
  obtain ⟨hq, hP, ha, n1, n2, n3, t1, t2, t3, hs, _, _⟩ := may_apart hm
  obtain ⟨k1, k2, d1, d2, M1, M2, hMQ, x1, x2, hQ⟩ := may_sizes hm
  have hsec := secretsI_eq hm
  have hb : ∀ a, fixI (drw l p.M a % p.Q) p.Q = drw l p.M a := fun a => fixI_back hq (drw_bd l M1 a) hMQ
  have hout : (whoS p l).any (outB p) = false := List.any_eq_false.2 fun x hx => by
    obtain ⟨a, _, rfl⟩ := List.mem_map.1 hx
    have := drw_bd l M1 a
    have hw : wrap64 (-p.M) = -p.M := IntWalk.wrap64_in _ ⟨by omega, by omega⟩
    simp [outB, hb, hw]
    omega
  have hl : (whoS p l).length = p.K.toNat * (p.D.toNat + 1) := by
    unfold whoS
    rw [List.length_map, List.length_range, hsec, Int.toNat_natCast]
  have hE : modelE p (whoS p l) = 0 := by
    unfold modelE
    rw [hs, hout, if_pos (by simp [hl, hsec, k1, d1])]
    rfl
  have hD : (p.D + 1).toNat = p.D.toNat + 1 := by omega
  have hat : ∀ a, a < p.K.toNat * (p.D.toNat + 1) → (whoS p l)[a]? = some (drw l p.M a % p.Q) := fun a h => by
    unfold whoS
    rw [hsec, Int.toNat_natCast, List.getElem?_map, List.getElem?_range h]
    rfl
  have hin : ∀ k, k < p.K.toNat → k * (p.D.toNat + 1) + (p.D.toNat + 1) ≤ p.K.toNat * (p.D.toNat + 1) := fun k h => by
    have := Nat.mul_le_mul_right (p.D.toNat + 1) (show k + 1 ≤ p.K.toNat from h)
    rw [Nat.succ_mul] at this
    exact this
  refine ⟨hE, ?_, ?_⟩
  · unfold modelW whoW chk
    rw [if_pos hE, List.map_map, hD]
    refine List.map_congr_left fun k hk => ?_
    have h1 := hin k (List.mem_range.1 hk)
    show (((List.drop (k * (p.D.toNat + 1)) (whoS p l)).take (p.D.toNat + 1)).take p.D.toNat).map (fun x => fixI x p.Q) = _
    refine List.ext_getElem (by simp [hl]; omega) fun d e1 e2 => ?_
    have hd : d < p.D.toNat := by simpa using e2
    have h2 := hat (k * (p.D.toNat + 1) + d) (by omega)
    obtain ⟨h3, h4⟩ := List.getElem?_eq_some_iff.1 h2
    rw [List.getElem_map, List.getElem_take, List.getElem_take, List.getElem_drop, h4, hb, List.getElem_map, List.getElem_range]
  · unfold modelB whoB chk
    rw [if_pos hE, List.map_map, hD]
    refine List.map_congr_left fun k hk => ?_
    have h1 := hin k (List.mem_range.1 hk)
    show fixI ((((List.drop (k * (p.D.toNat + 1)) (whoS p l)).take (p.D.toNat + 1))[p.D.toNat]?).getD 0) p.Q = _
    rw [List.getElem?_take_of_lt (by omega), List.getElem?_drop, hat _ (by omega)]
    exact hb _
end Go.Proofs.YtnjkelojkoeihaaGreatDoor

namespace Go.Proofs.YtnjkelojkoeihaaGreatDoor
open Go Go.RowKit

/-- Lists of t numbers, none below 0. -/
def Rect (t : Nat) (F : List (List Int)) : Prop := ∀ r ∈ F, r.length = t ∧ ∀ y ∈ r, 0 ≤ y
def pairsOf (t : Nat) (a b : List Int) : List (Int × Int) := (List.range t).map fun j => (a[j]?.getD 0, b[j]?.getD 0)
theorem pairsOf_fst {t : Nat} {a b : List Int} (h : a.length = t) : (pairsOf t a b).map (·.1) = a := by
  subst h
  refine List.ext_getElem (by simp [pairsOf]) fun j h1 h2 => ?_
  simp [pairsOf, List.getElem?_eq_getElem h2]
theorem pairsOf_snd {t : Nat} {a b : List Int} (h : b.length = t) : (pairsOf t a b).map (·.2) = b := by
  subst h
  refine List.ext_getElem (by simp [pairsOf]) fun j h1 h2 => ?_
  simp [pairsOf, List.getElem?_eq_getElem h2]
theorem pairsOf_pos {t : Nat} {a b : List Int} (ha : ∀ y ∈ a, 0 ≤ y) (hb : ∀ y ∈ b, 0 ≤ y) : ∀ y ∈ pairsOf t a b, 0 ≤ y.1 ∧ 0 ≤ y.2 := by
  have key : ∀ (l : List Int), (∀ y ∈ l, 0 ≤ y) → ∀ j : Nat, (0 : Int) ≤ l[j]?.getD 0 := fun l hl j => by
    rcases Nat.lt_or_ge j l.length with h | h
    · rw [List.getElem?_eq_getElem h]
      exact hl _ (List.getElem_mem h)
    · rw [List.getElem?_eq_none h]
      exact Int.le_refl 0
  intro y hy
  obtain ⟨j, _, rfl⟩ := List.mem_map.1 hy
  exact ⟨key a ha j, key b hb j⟩
theorem comI_pairs (p : Par) {t : Nat} {a b : List Int} (ha : a.length = t) (hb : b.length = t) : comI p (a, b) = (pairsOf t a b).map (commitI p) := by
  simp [comI, zipU, pairsOf, ha, hb, Function.comp_def]
theorem comsI_pairs (p : Par) {F R : List (List Int)} (h : F.length = R.length) : comsI p F R = (List.range F.length).map fun s => comI p (F[s]?.getD [], R[s]?.getD []) := by
  simp [comsI, zipS, h, Function.comp_def]
theorem eval_ev {q : Int} (hq : mayB q = true) (x : Int) (c : List Int) : evZ x c % q = evalI q c x := by
  have h0 := mayB_pos hq
  have hb : 0 ≤ evalI q c x ∧ evalI q c x < q := by
    cases c with
    | nil => exact ⟨Int.le_refl _, h0⟩
    | cons y c =>
      rw [evalI_cons', addI_yes _ _ _ hq]
      exact ⟨Int.emod_nonneg _ (by omega), Int.emod_lt_of_pos _ h0⟩
  have h := (evalI_cg' hq x c).symm
  unfold Cg at h
  rw [h, Int.emod_eq_of_lt hb.1 hb.2]
theorem at_getD {t : Nat} {F : List (List Int)} (h : Rect t F) {s : Nat} (hs : s < F.length) : ∃ r, F[s]? = some r ∧ r.length = t ∧ ∀ y ∈ r, 0 ≤ y := ⟨F[s], List.getElem?_eq_getElem hs, h _ (List.getElem_mem hs)⟩
theorem deal_fits {p : Par} (hm : mayP p = true) {t : Nat} {F R : List (List Int)} (hl : F.length = R.length) (hF : Rect t F) (hR : Rect t R) {i : Int} (hi : 0 ≤ i) : fitsI p (comsI p F R) i (dealtI p F R i) = true := by
  have hg := good_of hm
  have h0 := mayB_pos hg.Q
  unfold fitsI shareI dealtI
  rw [comsI_pairs p hl, List.map_map, List.map_map]
  refine decide_eq_true (List.map_congr_left fun s hs => ?_)
  have hs1 := List.mem_range.1 hs
  obtain ⟨a, ea, la, pa⟩ := at_getD hF hs1
  obtain ⟨b, eb, lb, pb⟩ := at_getD hR (hl ▸ hs1)
  show commitI p (evalI p.Q (F[s]?.getD []) i, evalI p.Q (R[s]?.getD []) i) = atI p (comI p (F[s]?.getD [], R[s]?.getD [])) i
  rw [ea, eb, Option.getD_some, Option.getD_some, comI_pairs p la lb, at_commits hg i hi _ (pairsOf_pos pa pb), valGo_ev hg.Q _ (0, 0) 1 (Int.le_refl 0) h0 (Int.le_refl 0) h0, pairsOf_fst la, pairsOf_snd lb]
  simp only [Int.zero_add, Int.one_mul]
  rw [eval_ev hg.Q, eval_ev hg.Q]
theorem deal_formed {p : Par} (hm : mayP p = true) {t : Nat} (ht : (t : Int) = p.T + 1) {F R : List (List Int)} (hn : (F.length : Int) = secretsI p) (hl : F.length = R.length) (hF : Rect t F) (hR : Rect t R) : formedB p (comsI p F R) = true := by
  have hg := good_of hm
  obtain ⟨_, _, _, _, _, _, t1, t2, _, _, _, _⟩ := may_apart hm
  have hw : IntKind.i64.wrap (p.T + 1) = (t : Int) := by rw [← ht]; exact IntWalk.i64_in _ (by omega)
  unfold formedB allB
  rw [comsI_pairs p hl, hw, ← hn]
  simp only [List.length_map, List.length_range, decide_true, Bool.true_and, Bool.not_eq_true', List.any_eq_false]
  intro r hr
  obtain ⟨s, hs, rfl⟩ := List.mem_map.1 hr
  have hs1 := List.mem_range.1 hs
  obtain ⟨a, ea, la, pa⟩ := at_getD hF hs1
  obtain ⟨b, eb, lb, pb⟩ := at_getD hR (hl ▸ hs1)
  rw [ea, eb, Option.getD_some, Option.getD_some, comI_pairs p la lb]
  simp only [rowBad, List.length_map, Bool.or_eq_true, decide_eq_true_eq, List.any_eq_true, not_or, not_exists, not_and]
  refine ⟨by simp [pairsOf], fun x hx => ?_⟩
  obtain ⟨y, hy, rfl⟩ := List.mem_map.1 hx
  obtain ⟨y1, y2⟩ := pairsOf_pos pa pb y hy
  simp [is_commit' hg y y1 y2]
end Go.Proofs.YtnjkelojkoeihaaGreatDoor

namespace Go.Proofs.YtnjkelojkoeihaaGreatDoor
open Go Go.RowKit Go.Shelf

theorem dvalue_any (x : Int × Int) (w : World) :
    Calls Tryz.prog 61 #[.agg #[.int .u64 x.1, .int .u64 x.2]] w fun e w' => e = .returned (.int .u64 x.1) ∧ w.grownBy w' none := by
  obtain ⟨a, b⟩ := x
  go_enter Tryz.func61, Tryz.ntmps61
  go_wp2
  go_ret
  exact ⟨rfl, World.grownBy_alloc w _ none⟩
set_option maxHeartbeats 1000000 in
theorem each_dvalue_any (v : Value) (l : List (Int × Int)) (X : Nat → Prop) (w : World) (h : Sl encP X w v l) (hb : l.length ≤ 1000) :
    Calls Tryz.prog 60 #[v, .func (.func 61) #[] #[]] w (Gives encU (fun g => w.heap.size ≤ g) w (l.map (·.1))) := by
  have H := Lib.hid h
  have HB := Lib.hid hb
  obtain ⟨A, c, rfl, hc1, hc2⟩ := h.form
  clear h hb
  go_enter Tryz.func60, Tryz.ntmps60
  go_wp2_with fail
  go_loopg [5, 10] l.length (fun g s5 s10 wx => ∃ j : Nat, j + g = l.length ∧ s10 = .int .i64 j ∧ Hid (Acc encU w.heap.size 22 (fun g => w.heap.size ≤ g) wx s5 ((l.take j).map (·.1)) ∧ w.grownBy wx none))
  case atStart => exact ⟨0, by omega, rfl, Lib.hid ⟨Acc.nil _ _ _ _ _, World.grownBy.refl _ none⟩⟩
  case round =>
    obtain ⟨j, hj, rfl, HX⟩ := hrel
    cases gk with
    | zero =>
      obtain rfl : j = l.length := by omega
      have HR : Hid (Sl encU (fun g => w.heap.size ≤ g) wr u5 (l.map (·.1)) ∧ w.grownBy wr none) := Lib.hid ⟨by have := HX.out.1.sl; rwa [List.take_length] at this, HX.out.2⟩
      clear HX
      go_wp2
      go_ret
      exact ⟨_, rfl, HR.out.1, HR.out.2⟩
    | succ m =>
      have hjn : (j : Int) < (l.length : Int) := by omega
      have hjN : j < l.length := by omega
      obtain ⟨hacc, hg⟩ := HX.out
      obtain ⟨g, o, c', e, _, _, hc0, hc1', hu1, hu2⟩ := (H.out.kept hg).atP hjN
      injection e with e1 e2 e3
      subst e1 e3
      have HSN : Hid ((l.take (j + 1)).map (·.1) = (l.take j).map (·.1) ++ [l[j].1]) := Lib.hid (by rw [List.take_succ_eq_append_getElem hjN, List.map_append]; rfl)
      have HU : Hid (U64 l[j].1) := Lib.hid hu1
      have HAC := Lib.hid hacc
      have HG := Lib.hid hg
      have HLB : Hid ((((l.take j).map (·.1)).length + 1) * 8 ≤ 140737488355328) := Lib.hid (by have := HB.out; simp; omega)
      obtain ⟨y, hy⟩ : ∃ y, y = l[j] := ⟨_, rfl⟩
      rw [← hy] at HSN HU hc0 hc1'
      obtain ⟨wa, hwa⟩ : ∃ y2, y2 = wr.alloc (Obj.cells #[.int .u64 y.1, .int .u64 y.2] 58) := ⟨_, rfl⟩
      have HGA : Hid (wr.grownBy wa none) := Lib.hid (by rw [hwa]; exact World.grownBy_alloc _ _ none)
      have hbx : Bk wa wr.heap.size 58 #[.int .u64 y.1, .int .u64 y.2] := by rw [hwa]; exact Bk.new _ _ _
      have HC := Lib.hid (dvalue_any y wa)
      obtain ⟨ya, yb⟩ := y
      simp only at hc0 hc1' HC HSN HU hwa hbx
      have d0 := hbx.cell 0
      have d1 := hbx.cell 1
      simp at d0 d1
      clear hacc hg HX hu1 hu2 e2 hy hbx
      generalize l.length = n at *
      go_wp2_with fail
      rw [← hwa]
      clear hwa
      refine HC.out.mono ?_
      rintro e w1 ⟨rfl, hg1⟩
      have HG1 : Hid (w.grownBy w1 none) := Lib.hid (HG.out.trans (HGA.out.trans hg1))
      have HAC1 := Lib.hid (HAC.out.kept (HGA.out.trans hg1))
      clear hg1 d0 d1 hc0 hc1'
      go_wp2_with (at_builtin; refine wpList_pushG rfl (.tmp 14) (.tmp 18) rfl (E := encU) (y := ya) el_u64 HG1.out HAC1.out (fun _ h => h) ⟨rfl, HU.out⟩ HLB.out rfl rfl ?_)
      intro v2 w2 hacc2 hg2 hgo
      have HFIN : Hid (Acc encU w.heap.size 22 (fun g => w.heap.size ≤ g) w2 v2 ((l.take (j + 1)).map (·.1)) ∧ w.grownBy w2 none) := Lib.hid ⟨by rw [HSN.out]; simpa using hacc2, hg2⟩
      clear hacc2 hg2 hgo
      go_wp2_with fail
      go_roundg m
      case measure => omega
      case rel => exact ⟨j + 1, by omega, by go_num, HFIN⟩
theorem dblinder_any (x : Int × Int) (w : World) :
    Calls Tryz.prog 62 #[.agg #[.int .u64 x.1, .int .u64 x.2]] w fun e w' => e = .returned (.int .u64 x.2) ∧ w.grownBy w' none := by
  obtain ⟨a, b⟩ := x
  go_enter Tryz.func62, Tryz.ntmps62
  go_wp2
  go_ret
  exact ⟨rfl, World.grownBy_alloc w _ none⟩
set_option maxHeartbeats 1000000 in
theorem each_dblinder_any (v : Value) (l : List (Int × Int)) (X : Nat → Prop) (w : World) (h : Sl encP X w v l) (hb : l.length ≤ 1000) :
    Calls Tryz.prog 60 #[v, .func (.func 62) #[] #[]] w (Gives encU (fun g => w.heap.size ≤ g) w (l.map (·.2))) := by
  have H := Lib.hid h
  have HB := Lib.hid hb
  obtain ⟨A, c, rfl, hc1, hc2⟩ := h.form
  clear h hb
  go_enter Tryz.func60, Tryz.ntmps60
  go_wp2_with fail
  go_loopg [5, 10] l.length (fun g s5 s10 wx => ∃ j : Nat, j + g = l.length ∧ s10 = .int .i64 j ∧ Hid (Acc encU w.heap.size 22 (fun g => w.heap.size ≤ g) wx s5 ((l.take j).map (·.2)) ∧ w.grownBy wx none))
  case atStart => exact ⟨0, by omega, rfl, Lib.hid ⟨Acc.nil _ _ _ _ _, World.grownBy.refl _ none⟩⟩
  case round =>
    obtain ⟨j, hj, rfl, HX⟩ := hrel
    cases gk with
    | zero =>
      obtain rfl : j = l.length := by omega
      have HR : Hid (Sl encU (fun g => w.heap.size ≤ g) wr u5 (l.map (·.2)) ∧ w.grownBy wr none) := Lib.hid ⟨by have := HX.out.1.sl; rwa [List.take_length] at this, HX.out.2⟩
      clear HX
      go_wp2
      go_ret
      exact ⟨_, rfl, HR.out.1, HR.out.2⟩
    | succ m =>
      have hjn : (j : Int) < (l.length : Int) := by omega
      have hjN : j < l.length := by omega
      obtain ⟨hacc, hg⟩ := HX.out
      obtain ⟨g, o, c', e, _, _, hc0, hc1', hu1, hu2⟩ := (H.out.kept hg).atP hjN
      injection e with e1 e2 e3
      subst e1 e3
      have HSN : Hid ((l.take (j + 1)).map (·.2) = (l.take j).map (·.2) ++ [l[j].2]) := Lib.hid (by rw [List.take_succ_eq_append_getElem hjN, List.map_append]; rfl)
      have HU : Hid (U64 l[j].2) := Lib.hid hu2
      have HAC := Lib.hid hacc
      have HG := Lib.hid hg
      have HLB : Hid ((((l.take j).map (·.2)).length + 1) * 8 ≤ 140737488355328) := Lib.hid (by have := HB.out; simp; omega)
      obtain ⟨y, hy⟩ : ∃ y, y = l[j] := ⟨_, rfl⟩
      rw [← hy] at HSN HU hc0 hc1'
      obtain ⟨wa, hwa⟩ : ∃ y2, y2 = wr.alloc (Obj.cells #[.int .u64 y.1, .int .u64 y.2] 58) := ⟨_, rfl⟩
      have HGA : Hid (wr.grownBy wa none) := Lib.hid (by rw [hwa]; exact World.grownBy_alloc _ _ none)
      have hbx : Bk wa wr.heap.size 58 #[.int .u64 y.1, .int .u64 y.2] := by rw [hwa]; exact Bk.new _ _ _
      have HC := Lib.hid (dblinder_any y wa)
      obtain ⟨ya, yb⟩ := y
      simp only at hc0 hc1' HC HSN HU hwa hbx
      have d0 := hbx.cell 0
      have d1 := hbx.cell 1
      simp at d0 d1
      clear hacc hg HX hu1 hu2 e2 hy hbx
      generalize l.length = n at *
      go_wp2_with fail
      rw [← hwa]
      clear hwa
      refine HC.out.mono ?_
      rintro e w1 ⟨rfl, hg1⟩
      have HG1 : Hid (w.grownBy w1 none) := Lib.hid (HG.out.trans (HGA.out.trans hg1))
      have HAC1 := Lib.hid (HAC.out.kept (HGA.out.trans hg1))
      clear hg1 d0 d1 hc0 hc1'
      go_wp2_with (at_builtin; refine wpList_pushG rfl (.tmp 14) (.tmp 18) rfl (E := encU) (y := yb) el_u64 HG1.out HAC1.out (fun _ h => h) ⟨rfl, HU.out⟩ HLB.out rfl rfl ?_)
      intro v2 w2 hacc2 hg2 hgo
      have HFIN : Hid (Acc encU w.heap.size 22 (fun g => w.heap.size ≤ g) w2 v2 ((l.take (j + 1)).map (·.2)) ∧ w.grownBy w2 none) := Lib.hid ⟨by rw [HSN.out]; simpa using hacc2, hg2⟩
      clear hacc2 hg2 hgo
      go_wp2_with fail
      go_roundg m
      case measure => omega
      case rel => exact ⟨j + 1, by omega, by go_num, HFIN⟩
/-- What a list of coefficients tells at a place. -/
def atP (q x : Int) (c : List (Int × Int)) : Int × Int := (evalI q (c.map (·.1)) x, evalI q (c.map (·.2)) x)
theorem results_pair {fn : Func} {W : World} {B4 : Nat} {a b : Value} (h : fn.results = #[.cell 4 58]) (tmps : Array Value) (h4 : tmps.getD 4 undef = .pointer (some ⟨B4, 0, none⟩)) (hb4 : Bk W B4 58 #[a, b]) : (results fn tmps).run Tryz.prog W = .ok (.agg #[a, b]) W := by
  have r1 := run_loadVar_row (P := Tryz.prog) W B4 58 58 #[a, b] (0, 0) _ hb4 Tryz.underlying58 rfl (by kernel_rfl)
  have h4' : tmps[4]?.getD undef = .pointer (some ⟨B4, 0, none⟩) := by simpa using h4
  simp [results, h, h4', asAddr, r1]
set_option maxRecDepth 100000 in
set_option maxHeartbeats 2000000 in
theorem atOne_any (v : Value) (c : List (Int × Int)) (x q : Int) (Bx Bq : Nat) (X : Nat → Prop) (w : World) (h : Sl encP X w v c) (hx : U64 x) (hb : c.length ≤ 1000) (bx : Bk w Bx 22 #[.int .u64 x]) (bq : Bk w Bq 22 #[.int .u64 q]) :
    Calls Tryz.prog 58 #[v, .pointer (some ⟨Bx, 0, none⟩), .pointer (some ⟨Bq, 0, none⟩)] w fun e w' => e = .returned (.agg #[.int .u64 (atP q x c).1, .int .u64 (atP q x c).2]) ∧ w.grownBy w' none := by
  have H := Lib.hid h
  have HU := Lib.hid hx
  have HBX := Lib.hid bx
  have HBQ := Lib.hid bq
  have HB := Lib.hid hb
  obtain ⟨A, cc, rfl, _, _⟩ := h.form
  obtain ⟨w0, hw0⟩ : ∃ y, y = w.alloc (Obj.cells #[.int .u64 0, .int .u64 0] 58) := ⟨_, rfl⟩
  obtain ⟨B0, hB0⟩ : ∃ y, y = w.heap.size := ⟨_, rfl⟩
  have HG0 : Hid (w.grownBy w0 none) := Lib.hid (by rw [hw0]; exact World.grownBy_alloc _ _ none)
  have HBR : Hid (Bk w0 B0 58 #[.int .u64 0, .int .u64 0]) := Lib.hid (by rw [hw0, hB0]; exact Bk.new _ _ _)
  have HBE : Hid (w.heap.size ≤ B0) := Lib.hid (by rw [hB0]; exact Nat.le_refl _)
  clear h hx bx bq hb
  go_enter Tryz.func58, Tryz.ntmps58
  go_upto_region 1 with (fail)
  rw [← hw0, ← hB0]
  clear hw0 hB0
  have HD : Hid (w0.grownBy w0.drew none) := Lib.hid (grown_drewN' _ 1)
  have HLD : Hid (∀ W, w0.drew.grownBy W none → W.cell? ⟨Bx, 0, none⟩ = some (.int .u64 x) ∧ W.cell? ⟨Bq, 0, none⟩ = some (.int .u64 q)) := Lib.hid (fun W hg => by
    have h := HG0.out.trans (HD.out.trans hg)
    exact ⟨by simpa using (HBX.out.grown h (by simp)).cell 0, by simpa using (HBQ.out.grown h (by simp)).cell 0⟩)
  have HEV : Hid (∀ W, w0.drew.grownBy W none → Calls Tryz.prog 60 #[.slice A c.length cc, .func (.func 61) #[] #[]] W (Gives encU (fun g => W.heap.size ≤ g) W (c.map (·.1)))) := Lib.hid (fun W hg => each_dvalue_any _ c X W (H.out.kept (HG0.out.trans (HD.out.trans hg))) HB.out)
  have HEB : Hid (∀ W, w0.drew.grownBy W none → Calls Tryz.prog 60 #[.slice A c.length cc, .func (.func 62) #[] #[]] W (Gives encU (fun g => W.heap.size ≤ g) W (c.map (·.2)))) := Lib.hid (fun W hg => each_dblinder_any _ c X W (H.out.kept (HG0.out.trans (HD.out.trans hg))) HB.out)
  refine wp_region_mono 11 (by kernel_rfl) (by kernel_rfl) ?_
  -- op 0 (slot 5): move
  refine MonoR.step (Pv.eq (.slice A c.length cc)) [] (by kernel_rfl) (fun w' hw' => ?_) ?_
  · refine ask_do rfl fun K hK => ?_
    go_simp
    exact hK _ _ rfl rfl (World.grownBy.refl _ none)
  -- op 1 (slot 6): call
  refine MonoR.step (Pv.sl encU TT (c.map (·.1))) [(0, 5)] (by kernel_rfl) (fun w' hw' => ?_) ?_
  · rintro _ rfl
    refine ask_do rfl fun K hK => ?_
    go_simp
    refine (HEV.out w' hw').mono ?_
    rintro e w3 ⟨v3, rfl, hs3, hg3⟩
    exact hK _ _ rfl (hs3.more fun _ _ _ => trivial) hg3
  -- op 2 (slot 7): load
  refine MonoR.step (Pv.eq (.int .u64 x)) [] (by kernel_rfl) (fun w' hw' => ?_) ?_
  · refine ask_do rfl fun K hK => ?_
    obtain ⟨q0, q1⟩ := HLD.out w' hw'
    go_simp
    exact hK _ _ rfl rfl (World.grownBy.refl _ none)
  -- op 3 (slot 8): load
  refine MonoR.step (Pv.eq (.int .u64 q)) [] (by kernel_rfl) (fun w' hw' => ?_) ?_
  · refine ask_do rfl fun K hK => ?_
    obtain ⟨q0, q1⟩ := HLD.out w' hw'
    go_simp
    exact hK _ _ rfl rfl (World.grownBy.refl _ none)
  -- op 4 (slot 9): call
  refine MonoR.step (Pv.eq (.int .u64 (evalI q (c.map (·.1)) x))) [(1, 6), (2, 7), (3, 8)] (by kernel_rfl) (fun w' hw' => ?_) ?_
  · intro x6 h6
    have h6 : Sl encU TT w' x6 (c.map (·.1)) := h6
    rintro _ rfl
    rintro _ rfl
    refine ask_do rfl fun K hK => ?_
    go_simp
    refine (eval_any x6 (c.map (·.1)) x q TT w' h6 HU.out).mono ?_
    rintro e w3 ⟨rfl, hg3⟩
    exact hK _ _ rfl rfl hg3
  -- op 5 (slot 10): move
  refine MonoR.step (Pv.eq (.slice A c.length cc)) [] (by kernel_rfl) (fun w' hw' => ?_) ?_
  · refine ask_do rfl fun K hK => ?_
    go_simp
    exact hK _ _ rfl rfl (World.grownBy.refl _ none)
  -- op 6 (slot 11): call
  refine MonoR.step (Pv.sl encU TT (c.map (·.2))) [(5, 10)] (by kernel_rfl) (fun w' hw' => ?_) ?_
  · rintro _ rfl
    refine ask_do rfl fun K hK => ?_
    go_simp
    refine (HEB.out w' hw').mono ?_
    rintro e w3 ⟨v3, rfl, hs3, hg3⟩
    exact hK _ _ rfl (hs3.more fun _ _ _ => trivial) hg3
  -- op 7 (slot 12): load
  refine MonoR.step (Pv.eq (.int .u64 x)) [] (by kernel_rfl) (fun w' hw' => ?_) ?_
  · refine ask_do rfl fun K hK => ?_
    obtain ⟨q0, q1⟩ := HLD.out w' hw'
    go_simp
    exact hK _ _ rfl rfl (World.grownBy.refl _ none)
  -- op 8 (slot 13): load
  refine MonoR.step (Pv.eq (.int .u64 q)) [] (by kernel_rfl) (fun w' hw' => ?_) ?_
  · refine ask_do rfl fun K hK => ?_
    obtain ⟨q0, q1⟩ := HLD.out w' hw'
    go_simp
    exact hK _ _ rfl rfl (World.grownBy.refl _ none)
  -- op 9 (slot 14): call
  refine MonoR.step (Pv.eq (.int .u64 (evalI q (c.map (·.2)) x))) [(6, 11), (7, 12), (8, 13)] (by kernel_rfl) (fun w' hw' => ?_) ?_
  · intro x11 h11
    have h11 : Sl encU TT w' x11 (c.map (·.2)) := h11
    rintro _ rfl
    rintro _ rfl
    refine ask_do rfl fun K hK => ?_
    go_simp
    refine (eval_any x11 (c.map (·.2)) x q TT w' h11 HU.out).mono ?_
    rintro e w3 ⟨rfl, hg3⟩
    exact hK _ _ rfl rfl hg3
  -- op 10 (slot 15): build
  refine MonoR.step (Pv.eq (.agg #[.int .u64 (evalI q (c.map (·.1)) x), .int .u64 (evalI q (c.map (·.2)) x)])) [(4, 9), (9, 14)] (by kernel_rfl) (fun w' hw' => ?_) ?_
  · rintro _ rfl
    rintro _ rfl
    refine ask_do rfl fun K hK => ?_
    go_simp
    exact hK _ _ rfl rfl (World.grownBy.refl _ none)
  

  intro w3 hw3
  intro y0 k0 y1 k1 y2 k2 y3 k3 y4 k4 y5 k5 y6 k6 y7 k7 y8 k8 y9 k9 y10 k10
  show wpList Tryz.prog _ _ _ _ w3
  simp only [Act.put, List.setIfInBounds_toArray, List.set_cons_zero, List.set_cons_succ]
  have e10 : y10 = .agg #[.int .u64 (evalI q (c.map (·.1)) x), .int .u64 (evalI q (c.map (·.2)) x)] := k10
  subst e10
  have hb3 : Bk w3 B0 58 #[.int .u64 0, .int .u64 0] := HBR.out.grown (HD.out.trans hw3) (by simp)
  have d0 := hb3.cell 0
  have d1 := hb3.cell 1
  have f3 := hb3.free
  simp at d0 d1
  have HR : Hid (Bk ((w3.setCell ⟨B0, 0, none⟩ (.int .u64 (evalI q (c.map (·.1)) x))).setCell ⟨B0, 1, none⟩ (.int .u64 (evalI q (c.map (·.2)) x))) B0 58 #[.int .u64 (evalI q (c.map (·.1)) x), .int .u64 (evalI q (c.map (·.2)) x)]) := Lib.hid ((hb3.set 0 _).set 1 _)
  have HGF : Hid (w.grownBy ((w3.setCell ⟨B0, 0, none⟩ (.int .u64 (evalI q (c.map (·.1)) x))).setCell ⟨B0, 1, none⟩ (.int .u64 (evalI q (c.map (·.2)) x))) none) := Lib.hid (grownSetUp (grownSetUp (HG0.out.trans (HD.out.trans hw3)) 0 _ HBE.out) 1 _ HBE.out)
  clear hw3 hb3 k0 k1 k2 k3 k4 k5 k6 k7 k8 k9 k10 HLD HEV HEB
  go_wp2_with fail
  exact ⟨rfl, _, results_pair rfl _ rfl HR.out, rfl, HGF.out⟩
set_option maxRecDepth 100000 in
set_option maxHeartbeats 2000000 in
theorem eachAt_any (v : Value) (L : List (List (Int × Int))) (x q : Int) (Bx Bq : Nat) (X : Nat → Prop) (w : World) (h : Sl (encS encP) X w v L) (hx : U64 x) (hb : L.length ≤ 1000) (hb2 : ∀ c ∈ L, c.length ≤ 1000) (bx : Bk w Bx 22 #[.int .u64 x]) (bq : Bk w Bq 22 #[.int .u64 q]) :
    Calls Tryz.prog 57 #[v, .func (.func 58) #[] #[.pointer (some ⟨Bx, 0, none⟩), .pointer (some ⟨Bq, 0, none⟩)]] w (Gives encP (fun g => w.heap.size ≤ g) w (L.map (atP q x))) := by
  have H := Lib.hid h
  have HB := Lib.hid hb
  have HB2 := Lib.hid hb2
  have HU := Lib.hid hx
  have HBX := Lib.hid bx
  have HBQ := Lib.hid bq
  obtain ⟨A, c, rfl, hc1, hc2⟩ := h.form
  clear h hb hb2 hx bx bq
  go_enter Tryz.func57, Tryz.ntmps57
  go_wp2_with fail
  go_loopg [5, 10] L.length (fun g s5 s10 wx => ∃ j : Nat, j + g = L.length ∧ s10 = .int .i64 j ∧ Hid (Acc encP w.heap.size 58 (fun g => w.heap.size ≤ g) wx s5 ((L.take j).map (atP q x)) ∧ w.grownBy wx none))
  case atStart => exact ⟨0, by omega, rfl, Lib.hid ⟨Acc.nil _ _ _ _ _, World.grownBy.refl _ none⟩⟩
  case round =>
    obtain ⟨j, hj, rfl, HX⟩ := hrel
    cases gk with
    | zero =>
      obtain rfl : j = L.length := by omega
      have HR : Hid (Sl encP (fun g => w.heap.size ≤ g) wr u5 (L.map (atP q x)) ∧ w.grownBy wr none) := Lib.hid ⟨by have := HX.out.1.sl; rwa [List.take_length] at this, HX.out.2⟩
      clear HX
      go_wp2
      go_ret
      exact ⟨_, rfl, HR.out.1, HR.out.2⟩
    | succ m =>
      have hjn : (j : Int) < (L.length : Int) := by omega
      have hjN : j < L.length := by omega
      obtain ⟨hacc, hg⟩ := HX.out
      obtain ⟨g, o, c', u, e, _, _, hcu, hu⟩ := (H.out.kept hg).atS hjN
      injection e with e1 e2 e3
      subst e1 e3
      have HSN : Hid ((L.take (j + 1)).map (atP q x) = (L.take j).map (atP q x) ++ [atP q x L[j]]) := Lib.hid (by rw [List.take_succ_eq_append_getElem hjN, List.map_append]; rfl)
      have HC := Lib.hid (atOne_any u L[j] x q Bx Bq _ wr hu HU.out (HB2.out _ (List.getElem_mem hjN)) (HBX.out.grown hg (by simp)) (HBQ.out.grown hg (by simp)))
      have HAC := Lib.hid hacc
      have HG := Lib.hid hg
      have HLB : Hid ((((L.take j).map (atP q x)).length + 1) * 16 ≤ 140737488355328) := Lib.hid (by have := HB.out; simp; omega)
      have HU2 : Hid (U64 (atP q x L[j]).1 ∧ U64 (atP q x L[j]).2) := Lib.hid ⟨evalI_U64 _ _ _, evalI_U64 _ _ _⟩
      obtain ⟨A1, n1, c1, e1⟩ := hu.shape
      subst e1
      obtain ⟨y, hy⟩ : ∃ y, y = atP q x L[j] := ⟨_, rfl⟩
      rw [← hy] at HSN HC HU2
      obtain ⟨ya, yb⟩ := y
      clear hacc hg HX hu e2 hy
      generalize hLn : L.length = n at *
      clear hLn
      go_wp2_with fail
      refine HC.out.mono ?_
      rintro e w1 ⟨rfl, hg1⟩
      have HG1 : Hid (w.grownBy w1 none) := Lib.hid (HG.out.trans hg1)
      have HAC1 := Lib.hid (HAC.out.kept hg1)
      clear hg1 hcu
      go_wp2_with (at_builtin; refine wpList_pushG rfl (.tmp 14) (.tmp 18) rfl (E := encP) (y := (ya, yb)) el_pair HG1.out HAC1.out (fun _ h => h) ⟨rfl, HU2.out.1, HU2.out.2⟩ HLB.out rfl rfl ?_)
      intro v2 w2 hacc2 hg2 hgo
      have HFIN : Hid (Acc encP w.heap.size 58 (fun g => w.heap.size ≤ g) w2 v2 ((L.take (j + 1)).map (atP q x)) ∧ w.grownBy w2 none) := Lib.hid ⟨by rw [HSN.out]; simpa using hacc2, hg2⟩
      clear hacc2 hg2 hgo
      go_wp2_with fail
      go_roundg m
      case measure => omega
      case rel => exact ⟨j + 1, by omega, by go_num, HFIN⟩
theorem dat_any (v : Value) (L : List (List (Int × Int))) (x q : Int) (X : Nat → Prop) (w : World) (h : Sl (encS encP) X w v L) (hx : U64 x) (hb : L.length ≤ 1000) (hb2 : ∀ c ∈ L, c.length ≤ 1000) :
    Calls Tryz.prog 12 #[v, .int .u64 x, .int .u64 q] w (Gives encP (fun g => w.heap.size ≤ g) w (L.map (atP q x))) := by
  obtain ⟨w0, hw0⟩ : ∃ y, y = (w.alloc (Obj.cells #[.int .u64 x] 22)).alloc (Obj.cells #[.int .u64 q] 22) := ⟨_, rfl⟩
  have HG0 : Hid (w.grownBy w0 none) := Lib.hid (by rw [hw0]; exact grown_two)
  have HB1 : Hid (Bk w0 w.heap.size 22 #[.int .u64 x]) := Lib.hid (by rw [hw0]; exact (Bk.new w _ _).alloc _)
  have HB2 : Hid (Bk w0 (w.heap.size + 1) 22 #[.int .u64 q]) := Lib.hid (by
    rw [hw0]
    have h := Bk.new (w.alloc (Obj.cells #[.int .u64 x] 22)) 22 #[.int .u64 q]
    rw [World.size_alloc] at h
    exact h)
  have HC := Lib.hid (eachAt_any v L x q w.heap.size (w.heap.size + 1) X w0 (h.kept HG0.out) hx hb hb2 HB1.out HB2.out)
  obtain ⟨A, c, rfl, _, _⟩ := h.form
  clear h
  go_enter Tryz.func12, Tryz.ntmps12
  go_wp2_with fail
  rw [← hw0]
  clear hw0
  refine HC.out.mono ?_
  rintro e w1 ⟨v1, rfl, hs1, hg1⟩
  have HR : Hid (Sl encP (fun g => w.heap.size ≤ g) w1 v1 (L.map (atP q x)) ∧ w.grownBy w1 none) := Lib.hid ⟨hs1.more fun g _ h => Nat.le_trans HG0.out.size h, HG0.out.trans hg1⟩
  clear hs1 hg1
  go_wp2
  go_ret
  exact ⟨_, rfl, HR.out.1, HR.out.2⟩
end Go.Proofs.YtnjkelojkoeihaaGreatDoor
