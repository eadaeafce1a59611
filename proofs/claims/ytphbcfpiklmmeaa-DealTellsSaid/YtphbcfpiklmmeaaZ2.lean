/- The document's Times, Power, Commit, At, Is of the layer group, walked: what they tell is what group's tell. A region that draws its order and writes while it goes on: walked once, when each operation tells one and the same value, and where the worlds stand is told by which operations were carried out. A drawn region in the round of a range over a function, at the wide fence, walked by the plain laws. The law for drawn regions, in a walk that meets rounds (the wide fence): the tail may call yield. A range over a function whose body never leaves, where what is handed over lies in memory that the iterator has just laid: the body is told what is known of it in the world in which it is called. pedersen.pairs, an iterator over two lists, walked. pedersen.pairs over lists of lists, and of lists of lists of lists; pairs itself; walked. pedersen.pairs' contracts and pedersen.Coms. poly.others, an iterator over how far places are from each other, walked (printed by mk_poly.py). pedersen.Coms, walked: a range over a function within a range over a function. poly.share, walked. poly.may and poly.unlike, walked: what is wrong with places (a map of those met). poly.Weights, walked. pedersen.Matrix, walked. pedersen.Formed: slices.ContainsFunc over numbers and over lists of numbers. pedersen.secrets, all, Formed. share.secrets, small, all, weights, walked. share.all, walked (printed by mk_shrb.py). share.weights, Coms' closures, come over numbers, walked. share.come over numbers, members, walked. share.members, and slices.ContainsFunc at share's closures, walked (printed by mk_shre.py). A pair made in memory. share.Sum's closures, walked (printed by mk_shrf.py). share.come over pairs, walked (printed by mk_shrg.py). share.Sum, walked (printed by mk_shrh.py). fixed.Int, walked. Dealt as data. share.Coms, walked (printed by mk_shrk.py). slices.Chunk, an iterator over pieces of a list, walked. A region that draws its order, in which some operations, one behind the other (the late ones: appends, stores), turn what lay there (printed by mk_late.py from XMono). share.Model, walked. The document's comparisons, of what is the same, walked. The document's comparison of models, of what is the same, walked. Weights, sums and commitments reckoned: what Lean can decide. math/bits.TrailingZeros64 and mod.Prime, walked. What comes in: data of whatever depth, as the walks want it. group.May, walked: its asks one by one. group.May, walked: the asks as values, and the whole. Powers and commitments modulo P: plain arithmetic. The plain law of weights: places apart, rows turned about, one place alone. No program in sight but the data's words. The plain law of weights: rows turned about, one place alone. What members' pairs, and dealers' commitments, come to: in whatever row, and of one alone: the plain law of ShareRows. The plain law of ShareFits: what shares come to fits what their commitments come to. The plain law of weights at 0: two or three points tell a polynomial's first number. consistorylaw20.some, walked; three lists side by side. The plain law of ShareWhole: the shares of T + 1 members come to the secrets, and these are the model's. The document's value of a polynomial, power by power, is what poly.Eval tells (plain law). deal.At, walked (printed by mk_dealf.py). pedersen.RowComs, Fits, slices.Equal of numbers, walked. consistoryref18.value, walked; what lists made since are told by. consistoryref18's half, At, committed; consistoryref08's Share, ColComs: walked (printed by mkt.py). deal.Pairs, walked. deal.flat, deal.Flat, deal.Pack, walked (printed by mk_pack.py). consistoryref18's Flat, Pairs, Pack, committed; consistoryref08's RowComs, Fits: walked (printed by mkt.py). consistoryref18.committed; consistoryref08's RowComs, Fits, Nums, Lists: walked (printed by mkt.py). -/
import Derived.Test.YtphbcfpiklmmeaaZ1
import Derived.RangeFuncNested
import Derived.RangeFuncCalls
import Derived.OwnWalkIn
import Derived.OrdersIn
import Derived.Deep.RegionHeld3
import Derived.TacticsIn
import Derived.RangeFuncBound
import Derived.RangeFuncLeaves
import Derived.Shelf.Abstract
import Derived.Shelf.RegionOpen
import Derived.WalkKit
import Derived.TacticsInMore
import Derived.LoopNIn
import Derived.LoopIn
import Derived.Stop.RegionWithIn
import Derived.Maps.OwnOps
import Derived.Maps.OwnSet
import Derived.Maps.Views
import Derived.Deep.QuietTactic
import Derived.BigQuiet
import Derived.Deep.LoopGhost
import Derived.Lib.TrailingZeros
import Derived.WalkMore
import Derived.ProofKit
import Derived.OpenShut
import Derived.ChangeOld
import Derived.Deep.Slices
import Derived.IntWalk
import Derived.Deep.DeepCutAuto
namespace Go.Proofs.Ytphbcfpiklmmeaa
open Go.RowKit

theorem u64_zero : U64 0 := by decide
theorem mulI_no (a b m : Int) (hm : mayB m = false) : mulI a b m = 0 := by simp [mulI, hm]
theorem timesI_no (P : Int) (l : List Int) (hm : mayB P = false) : timesI P l = 0 := by
  unfold timesI
  rcases List.eq_nil_or_concat l with rfl | ⟨l', x, rfl⟩
  · exact mulI_no _ _ _ hm
  · rw [List.concat_eq_append, List.foldl_append]
    exact mulI_no _ _ _ hm
theorem one_mod (P : Int) (hm : mayB P = true) : 1 % P = timesI P [] := by
  show _ = mulI 1 1 P
  rw [mulI_yes _ _ _ hm, Int.mul_one]
set_option maxHeartbeats 400000 in
theorem rtimes_any (p : Par) (v : Value) (l : List Int) (X : Nat → Prop) (w : World) (hp : p.ok) (h : Sl encU X w v l) :
    Calls Try.prog 52 #[p.v, v] w fun e w' => e = .returned (.int .u64 (timesI p.P l)) ∧ w.grownBy w' none := by
  have H := Lib.hid h
  have HP := Lib.hid hp.P
  have hp0 : 0 ≤ p.P := hp.P.1
  have hp1 : p.P < 18446744073709551616 := hp.P.2
  obtain ⟨A, c, rfl, h1, h2⟩ := h.form
  clear h hp
  cases hm : mayB p.P with
  | false =>
    have HE : Hid (timesI p.P l = 0) := Lib.hid (timesI_no _ _ hm)
    rcases may_cases hm hp0 with h0 | h0
    · have hb : (p.P == 0) = true := by simpa using h0
      clear hm h0 hp0 hp1
      go_enter Try.func52, Try.ntmps52
      go_wp2
      go_ret
      exact ⟨ret_u64 HE.out.symm, World.grownBy_alloc w _ none⟩
    · have hb : (p.P == 0) = false := by simp; omega
      have hb' : decide (2305843009213693952 < p.P) = true := by simpa using h0
      clear hm
      go_enter Try.func52, Try.ntmps52
      go_wp2
      go_ret
      exact ⟨ret_u64 HE.out.symm, World.grownBy_alloc w _ none⟩
  | true =>
    have HM := Lib.hid hm
    obtain ⟨m0, m1⟩ : 0 < p.P ∧ p.P ≤ 2305843009213693952 := by simpa [mayB] using hm
    have hb : (p.P == 0) = false := by simp; omega
    have hb' : decide (2305843009213693952 < p.P) = false := by simp; omega
    have HO := Lib.hid (one_mod p.P hm)
    have HB : Hid (w.grownBy (w.alloc (Obj.cells p.cells 24)) none ∧ Bk (w.alloc (Obj.cells p.cells 24)) w.heap.size 24 p.cells) := Lib.hid ⟨World.grownBy_alloc w _ none, Bk.new w _ _⟩
    clear hm
    go_enter Try.func52, Try.ntmps52
    go_wp2
    rw [HO.out]
    go_loopg [5, 6] l.length (fun g sx si wx => ∃ j : Nat, j + g = l.length ∧ si = .int .i64 j ∧ sx = .int .u64 (timesI p.P (l.take j)) ∧ Hid (w.grownBy wx none ∧ Bk wx w.heap.size 24 p.cells))
    case atStart => exact ⟨0, by omega, rfl, rfl, HB⟩
    case round =>
      obtain ⟨j, hj, rfl, rfl, HX⟩ := hrel
      cases gk with
      | zero =>
        obtain rfl : j = l.length := by omega
        have HE : Hid (timesI p.P (l.take l.length) = timesI p.P l) := Lib.hid (by rw [List.take_length])
        go_wp2
        go_ret
        exact ⟨ret_u64 HE.out, HX.out.1⟩
      | succ k =>
        have hjn : (j : Int) < (l.length : Int) := by omega
        have hjN : j < l.length := by omega
        obtain ⟨g, o, c', e, _, _, hc, hu⟩ := (H.out.kept HX.out.1).atU hjN
        injection e with e1 e2 e3
        subst e1 e3
        have cP : wr.cell? ⟨w.heap.size, 0, none⟩ = some (.int .u64 p.P) := HX.out.2.cell 0
        have HS := Lib.hid (timesI_snoc p.P l j hjN)
        have HTm := Lib.hid (timesI_U64 p.P (l.take j))
        have HU := Lib.hid hu
        generalize l[j] = y at *
        generalize timesI p.P (l.take j) = t at *
        clear hu e2
        go_wp2_with fail
        go_quiet ((go_at_call 46; exact Calls.quiet_of (refmul_any t y p.P _ HTm.out HU.out HP.out)))
        go_wp2
        go_roundg k
        case measure => omega
        case rel => exact ⟨j + 1, by omega, by go_num, by rw [HS.out], Lib.hid ⟨grownBy_drewN HX.out.1 _, HX.out.2.drewN _⟩⟩
theorem rtimes_nil (p : Par) (w : World) (hp : p.ok) :
    Calls Try.prog 52 #[p.v, .slice none 0 0] w fun e w' => e = .returned (.int .u64 (timesI p.P [])) ∧ w.grownBy w' none :=
  rtimes_any p _ [] (fun _ => True) w hp (Sl.nil _ _ _)
theorem rtimes_two (p : Par) (a b : Int) (w : World) (hp : p.ok) (ha : U64 a) (hb : U64 b) :
    Calls Try.prog 52 #[p.v, .slice (some ⟨w.heap.size, 0, none⟩) 2 2] (w.alloc (Obj.cells #[.int .u64 a, .int .u64 b] 22)) fun e w' => e = .returned (.int .u64 (timesI p.P [a, b])) ∧ w.grownBy w' none :=
  (rtimes_any p _ [a, b] (fun _ => True) _ hp (Sl.ofBk (t := 22) (Bk.new w 22 (nums [a, b]).toArray) (by intro y hy; simp at hy; rcases hy with rfl | rfl <;> assumption) (by simp))).mono fun _ _ ⟨he, hg⟩ => ⟨he, (World.grownBy_alloc w _ none).trans hg⟩
theorem rtimes_three (p : Par) (a b c : Int) (w : World) (hp : p.ok) (ha : U64 a) (hb : U64 b) (hc : U64 c) :
    Calls Try.prog 52 #[p.v, .slice (some ⟨w.heap.size, 0, none⟩) 3 3] (w.alloc (Obj.cells #[.int .u64 a, .int .u64 b, .int .u64 c] 22)) fun e w' => e = .returned (.int .u64 (timesI p.P [a, b, c])) ∧ w.grownBy w' none :=
  (rtimes_any p _ [a, b, c] (fun _ => True) _ hp (Sl.ofBk (t := 22) (Bk.new w 22 (nums [a, b, c]).toArray) (by intro y hy; simp at hy; rcases hy with rfl | rfl | rfl <;> assumption) (by simp))).mono fun _ _ ⟨he, hg⟩ => ⟨he, (World.grownBy_alloc w _ none).trans hg⟩

theorem timesI_two (P a b : Int) (hm : mayB P = true) : timesI P [a, b] = a * b % P := by
  show mulI (mulI (mulI 1 1 P) a P) b P = _
  rw [mulI_yes _ _ _ hm, mulI_yes _ _ _ hm, mulI_yes _ _ _ hm, Int.mul_one]
  exact ((Cg.mod P _).trans ((Cg.mod P 1).mul_right a |>.trans (Cg.of_eq (Int.one_mul a)))).mul_right b
theorem timesI_three (P a b c : Int) (hm : mayB P = true) : timesI P [a, b, c] = a * b * c % P := by
  show mulI (timesI P [a, b]) c P = _
  rw [mulI_yes _ _ _ hm, timesI_two _ _ _ hm]
  exact (Cg.mod P _).mul_right c
theorem rpow_zero (a P : Int) : timesI P [] = powI a 0 P := by
  cases hm : mayB P with
  | false => rw [timesI_no _ _ hm]; simp [powI, hm]
  | true => rw [← one_mod P hm]; simp [powI, hm]
theorem rpow_even (a e P : Int) (he : 0 ≤ e) (h2 : e % 2 = 0) : timesI P [powI a (e / 2) P, powI a (e / 2) P] = powI a e P := by
  cases hm : mayB P with
  | false => rw [timesI_no _ _ hm]; simp [powI, hm]
  | true => rw [timesI_two _ _ _ hm, ← pow_even a e P he h2, mulI_yes _ _ _ hm]
theorem rpow_odd (a e P : Int) (he : 0 ≤ e) (h2 : e % 2 = 1) : timesI P [powI a (e / 2) P, powI a (e / 2) P, a] = powI a e P := by
  cases hm : mayB P with
  | false => rw [timesI_no _ _ hm]; simp [powI, hm]
  | true =>
    rw [timesI_three _ _ _ _ hm, ← pow_odd a e P he h2, mulI_yes _ _ _ hm, mulI_yes _ _ _ hm]
    exact ((Cg.mod P _).mul_right a).symm

set_option maxHeartbeats 400000 in
theorem rpower_fuel (p : Par) (hp : p.ok) (x : Int) (hx : U64 x) : ∀ (f : Nat) (e : Int) (w : World), 0 ≤ e → e < 18446744073709551616 → e.toNat < 2 ^ f →
    Calls Try.prog 62 #[p.v, .int .u64 x, .int .u64 e] w fun e' w' => e' = .returned (.int .u64 (powI x e p.P)) ∧ w.grownBy w' none := by
  have HA := Lib.hid hx
  have HP := Lib.hid hp
  clear hx hp
  have base : ∀ w : World, Calls Try.prog 62 #[p.v, .int .u64 x, .int .u64 0] w fun e' w' => e' = .returned (.int .u64 (powI x 0 p.P)) ∧ w.grownBy w' none := by
    intro w
    rw [← rpow_zero]
    go_enter Try.func62, Try.ntmps62
    go_wp2_with fail
    refine (rtimes_nil p _ HP.out).mono ?_
    rintro e w1 ⟨rfl, hg⟩
    have HG := Lib.hid hg
    clear hg
    go_wp2
    go_ret
    exact ⟨rfl, (World.grownBy_alloc w _ none).trans HG.out⟩
  intro f
  induction f with
  | zero =>
    intro e w h0 h1 hf
    have : e = 0 := by simp at hf; omega
    subst this
    exact base w
  | succ f ih =>
    intro e w h0 h1 hf
    by_cases hz : e = 0
    · subst hz
      exact base w
    · have hz' : (e == 0) = false := by simpa using hz
      have HI := Lib.hid (fun w => ih (e / 2) w (by omega) (by omega) (by rw [Nat.pow_succ] at hf; omega))
      have HH := Lib.hid (powI_U64' x (e / 2) p.P)
      clear ih hf hz base
      by_cases h2 : e % 2 = 1
      · have h2' : (e % 2 == 1) = true := by simpa using h2
        rw [← rpow_odd x e p.P h0 h2]
        clear h2
        go_enter Try.func62, Try.ntmps62
        go_wp2_with fail
        refine (HI.out _).mono ?_
        rintro e w1 ⟨rfl, hg⟩
        have HG := Lib.hid hg
        have hp1 := ((Bk.new w 24 p.cells).grown hg (by simp)).prule
        clear hg
        go_wp2_with fail
        refine (rtimes_three p _ _ x w1 HP.out HH.out HH.out HA.out).mono ?_
        rintro e w2 ⟨rfl, hg⟩
        have HG2 := Lib.hid hg
        clear hg
        go_wp2
        go_ret
        exact ⟨rfl, (World.grownBy_alloc w _ none).trans (HG.out.trans HG2.out)⟩
      · have h2' : (e % 2 == 1) = false := by simpa using h2
        rw [← rpow_even x e p.P h0 (by omega)]
        clear h2
        go_enter Try.func62, Try.ntmps62
        go_wp2_with fail
        refine (HI.out _).mono ?_
        rintro e w1 ⟨rfl, hg⟩
        have HG := Lib.hid hg
        have hp1 := ((Bk.new w 24 p.cells).grown hg (by simp)).prule
        clear hg
        go_wp2_with fail
        refine (rtimes_two p _ _ w1 HP.out HH.out HH.out).mono ?_
        rintro e w2 ⟨rfl, hg⟩
        have HG2 := Lib.hid hg
        clear hg
        go_wp2
        go_ret
        exact ⟨rfl, (World.grownBy_alloc w _ none).trans (HG.out.trans HG2.out)⟩
theorem rpower_any (p : Par) (hp : p.ok) (x e : Int) (w : World) (hx : U64 x) (he : U64 e) :
    Calls Try.prog 62 #[p.v, .int .u64 x, .int .u64 e] w fun e' w' => e' = .returned (.int .u64 (powI x e p.P)) ∧ w.grownBy w' none := by
  obtain ⟨e0, e1⟩ := he
  exact rpower_fuel p hp x hx 64 e w e0 e1 (by have : (2 : Nat) ^ 64 = 18446744073709551616 := by decide
                                               omega)
set_option maxHeartbeats 400000 in
theorem rcommit_any (p : Par) (x : Int × Int) (w : World) (hp : p.ok) (h1 : U64 x.1) (h2 : U64 x.2) :
    Calls Try.prog 51 #[p.v, .agg #[.int .u64 x.1, .int .u64 x.2]] w fun e' w' => e' = .returned (.int .u64 (commitI p x)) ∧ w.grownBy w' none := by
  have HG : Hid (U64 p.G) := Lib.hid hp.G
  have HH : Hid (U64 p.H) := Lib.hid hp.H
  have H1 := Lib.hid h1
  have H2 := Lib.hid h2
  have HU := Lib.hid (powI_U64' p.G x.1 p.P)
  have HL := Lib.hid (powI_U64' p.H x.2 p.P)
  have HP := Lib.hid hp
  clear hp h1 h2
  go_enter Try.func51, Try.ntmps51
  go_wp2_with fail
  go_region_held3 (fun w' => ∀ b o, b < w.heap.size + 2 → w'.cell? ⟨b, o, none⟩ = ((w.alloc (Obj.cells p.cells 24)).alloc (Obj.cells #[.int .u64 x.1, .int .u64 x.2] 44)).cell? ⟨b, o, none⟩) (first | assumption | exact cells_alloc (by assumption) (by assumption) _ | go_keep)
    (first
    | (go_at_call 62; (with_reducible refine (rpower_any p HP.out p.G x.1 _ HG.out H1.out).mono ?_); rintro e w1 ⟨rfl, hg⟩; have HG1 := Lib.hid hg; have hc1 := cells_of (n := w.heap.size + 2) hg (by simp); clear hg)
    | (go_at_call 62; (with_reducible refine (rpower_any p HP.out p.H x.2 _ HH.out H2.out).mono ?_); rintro e w2 ⟨rfl, hg⟩; have HG2 := Lib.hid (HG1.out.trans hg); have hc2 := cells_of (n := w.heap.size + 2) HG2.out (by simp); have hs2 : w.heap.size + 2 ≤ w2.heap.size := Nat.le_trans (by simp) HG2.out.size; clear hg)
    | (go_at_call 52; (with_reducible refine (rtimes_two p _ _ w2 HP.out HU.out HL.out).mono ?_); rintro e w3 ⟨rfl, hg⟩; have HG3 := Lib.hid (HG2.out.trans hg); have hc3 := cells_of (n := w.heap.size + 2) HG3.out (by simp); clear hg))
  go_wp2
  go_ret
  exact ⟨rfl, ((World.grownBy_alloc w _ none).trans (World.grownBy_alloc _ _ none)).trans (grownBy_drewN (World.grownBy.refl _ none) 1 |>.trans HG3.out)⟩
set_option maxHeartbeats 400000 in
theorem rat_may (p : Par) (v : Value) (l : List Int) (i : Int) (X : Nat → Prop) (w : World) (hp : p.ok) (h : Sl encU X w v l) (hi : U64 i) (hq : mayB p.Q = true) :
    Calls Try.prog 53 #[p.v, v, .int .u64 i] w fun e' w' => e' = .returned (.int .u64 (atI p l i)) ∧ w.grownBy w' none := by
  have H := Lib.hid h
  have HP := Lib.hid hp
  have HI := Lib.hid hi
  have HO := Lib.hid (one_mod p.Q hq)
  obtain ⟨m0, m1⟩ : 0 < p.Q ∧ p.Q ≤ 2305843009213693952 := by simpa [mayB] using hq
  have hb : (p.Q == 0) = false := by simp; omega
  have hb' : decide (2305843009213693952 < p.Q) = false := by simp; omega
  obtain ⟨A, c, rfl, h1, h2⟩ := h.form
  clear h hi hp hq
  go_enter Try.func53, Try.ntmps53
  go_wp2_with fail
  refine (rtimes_nil p _ HP.out).mono ?_
  rintro e w1 ⟨rfl, hg⟩
  have HG := Lib.hid hg
  have HB : Hid (Bk w1 w.heap.size 24 p.cells) := Lib.hid ((Bk.new w _ _).grown hg (by simp))
  have hc1 := HB.out.prule
  clear hg
  go_wp2_with fail
  rw [HO.out]
  have HS : Hid (U64 (timesI p.P []) ∧ U64 (timesI p.Q []) ∧ w.grownBy w1 none ∧ Bk w1 w.heap.size 24 p.cells ∧ atGo p i (l.drop 0) (timesI p.P []) (timesI p.Q []) = atI p l i) :=
    Lib.hid ⟨timesI_U64 _ _, timesI_U64 _ _, (World.grownBy_alloc w _ none).trans HG.out, HB.out, rfl⟩
  clear HB HG hc1
  go_loopg [7, 9, 10] l.length (fun g sx se si wx => ∃ (j : Nat) (x e : Int), j + g = l.length ∧ si = .int .i64 j ∧ sx = .int .u64 x ∧ se = .int .u64 e ∧ Hid (U64 x ∧ U64 e ∧ w.grownBy wx none ∧ Bk wx w.heap.size 24 p.cells ∧ atGo p i (l.drop j) x e = atI p l i))
  case atStart => exact ⟨0, _, _, by omega, rfl, rfl, rfl, HS⟩
  case round =>
    obtain ⟨j, x, e, hj, rfl, rfl, rfl, HX⟩ := hrel
    cases gk with
    | zero =>
      obtain rfl : j = l.length := by omega
      have HE : Hid (x = atI p l i) := Lib.hid (by have := HX.out.2.2.2.2; rwa [List.drop_length] at this)
      have HGG := Lib.hid HX.out.2.2.1
      clear HX
      go_wp2
      go_ret
      exact ⟨ret_u64 HE.out, HGG.out⟩
    | succ k =>
      have hjn : (j : Int) < (l.length : Int) := by omega
      have hjN : j < l.length := by omega
      obtain ⟨hx, he, hg, hb, hs⟩ := HX.out
      obtain ⟨g, o, c', e', _, _, hc, hu⟩ := (H.out.kept hg).atU hjN
      injection e' with e1 e2 e3
      subst e1 e3
      have hp := hb.prule
      rw [atGo_step p i l j hjN] at hs
      have HS := Lib.hid hs
      have HXu := Lib.hid hx
      have HEu := Lib.hid he
      have HU := Lib.hid hu
      have HGr := Lib.hid hg
      have HBk := Lib.hid hb
      have HC : Hid (∀ w', wr.grownBy w' none → w'.cell? ⟨g, o + j, none⟩ = some (.int .u64 l[j])) := Lib.hid (fun w' hw => by
        obtain ⟨g', o', c'', e'', _, _, hc', _⟩ := ((H.out.kept hg).kept hw).atU hjN
        injection e'' with e1 e2 e3
        injection e1 with e1
        injection e1 with e1 e1'
        subst e1 e1'
        exact hc')
      generalize l[j] = y at *
      clear hx he hg hb hs hu e2 HX
      go_wp2_with fail
      go_region_held3 (fun w' => (∀ o, w'.cell? ⟨w.heap.size, o, none⟩ = (#[.int .u64 p.P, .int .u64 p.Q, .int .u64 p.G, .int .u64 p.H, .int .i64 p.Nodes, .int .i64 p.N, .int .i64 p.T, .int .i64 p.K, .int .i64 p.D, .int .i64 p.R, .int .i64 p.M, .int .i64 p.X] : Array Value)[o]?) ∧ w'.cell? ⟨g, o + j, none⟩ = some (.int .u64 y)) (first | (exact ⟨by assumption, by assumption⟩) | exact ⟨rule_alloc (by assumption) (by assumption) _, by assumption⟩ | go_keep)
        (first
        | (go_at_call 62; (with_reducible refine (rpower_any p HP.out y e _ HU.out HEu.out).mono ?_); rintro e' w2 ⟨rfl, hg⟩; have HG2 := Lib.hid ((grownBy_drewN (World.grownBy.refl wr none) 1).trans hg); have HB2 := Lib.hid (HBk.out.grown HG2.out (by simp)); have hp2 := HB2.out.prule; have hs2 := HB2.out.lt; have hc2 := HC.out w2 HG2.out; have hc3 := HC.out (w2.alloc (Obj.cells #[.int .u64 x, .int .u64 (powI y e p.P)] 22)) (HG2.out.trans (World.grownBy_alloc w2 _ none)); clear hg)
        | (go_at_call 52; (with_reducible refine (rtimes_two p x (powI y e p.P) w2 HP.out HXu.out (powI_U64' y e p.P)).mono ?_); rintro e' w3 ⟨rfl, hg⟩; have HG3 := Lib.hid (HG2.out.trans hg); have HB3 := Lib.hid (HB2.out.grown hg (by simp)); have hp3 := HB3.out.prule; have hc4 := HC.out w3 HG3.out; clear hg))
      go_wp2_with fail
      refine (refmul_any e i p.Q _ HEu.out HI.out HP.out.Q).mono ?_
      rintro e' w' ⟨rfl, n', rfl⟩
      go_wp2
      go_roundg k
      case measure => omega
      case rel => exact ⟨j + 1, _, _, by omega, by go_num, rfl, rfl, Lib.hid ⟨timesI_U64 _ _, mulI_U64 _ _ _, grownBy_drewN (HGr.out.trans HG3.out) n', HB3.out.drewN n', HS.out⟩⟩
theorem atGo_no_step (p : Par) (i : Int) (hq : mayB p.Q = false) (l : List Int) (j : Nat) (h : j < l.length) (x : Int) : atGo p i (l.drop j) x 0 = atGo p i (l.drop (j + 1)) (timesI p.P [x, powI l[j] 0 p.P]) 0 := by
  rw [atGo_step p i l j h, mulI_no _ _ _ hq]
set_option maxHeartbeats 400000 in
theorem rat_no0 (p : Par) (v : Value) (l : List Int) (i : Int) (X : Nat → Prop) (w : World) (hp : p.ok) (h : Sl encU X w v l) (_hi : U64 i) (hq : mayB p.Q = false) (h0 : p.Q = 0) :
    Calls Try.prog 53 #[p.v, v, .int .u64 i] w fun e' w' => e' = .returned (.int .u64 (atI p l i)) ∧ w.grownBy w' none := by
  have H := Lib.hid h
  have HP := Lib.hid hp
  have HQ := Lib.hid hq
  have hq0 := hp.Q.1
  have HAt : Hid (atI p l i = atGo p i (l.drop 0) (timesI p.P []) 0) := Lib.hid (by rw [atI, mulI_no _ _ _ hq]; rfl)
  obtain ⟨A, c, rfl, h1, h2⟩ := h.form
  have hb : (p.Q == 0) = true := by simpa using h0
  clear h0
  clear h _hi hp hq
  go_enter Try.func53, Try.ntmps53
  go_wp2_with fail
  refine (rtimes_nil p _ HP.out).mono ?_
  rintro e w1 ⟨rfl, hg⟩
  have HG := Lib.hid hg
  have HB : Hid (Bk w1 w.heap.size 24 p.cells) := Lib.hid ((Bk.new w _ _).grown hg (by simp))
  have hc1 := HB.out.prule
  have HS : Hid (U64 (timesI p.P []) ∧ w.grownBy w1 none ∧ Bk w1 w.heap.size 24 p.cells ∧ atGo p i (l.drop 0) (timesI p.P []) 0 = atI p l i) :=
    Lib.hid ⟨timesI_U64 _ _, (World.grownBy_alloc w _ none).trans hg, HB.out, HAt.out.symm⟩
  clear hg
  go_wp2_with fail
  clear HB HG hc1
  go_loopg [7, 8] l.length (fun g sx si wx => ∃ (j : Nat) (x : Int), j + g = l.length ∧ si = .int .i64 j ∧ sx = .int .u64 x ∧ Hid (U64 x ∧ w.grownBy wx none ∧ Bk wx w.heap.size 24 p.cells ∧ atGo p i (l.drop j) x 0 = atI p l i))
  case atStart => exact ⟨0, _, by omega, rfl, rfl, HS⟩
  case round =>
    obtain ⟨j, x, hj, rfl, rfl, HX⟩ := hrel
    cases gk with
    | zero =>
      obtain rfl : j = l.length := by omega
      have HE : Hid (x = atI p l i) := Lib.hid (by have := HX.out.2.2.2; rwa [List.drop_length] at this)
      have HGG := Lib.hid HX.out.2.1
      clear HX
      go_wp2
      go_ret
      exact ⟨ret_u64 HE.out, HGG.out⟩
    | succ k =>
      have hjn : (j : Int) < (l.length : Int) := by omega
      have hjN : j < l.length := by omega
      obtain ⟨hx, hg, hb, hs⟩ := HX.out
      obtain ⟨g, o, c', e', _, _, hc, hu⟩ := (H.out.kept hg).atU hjN
      injection e' with e1 e2 e3
      subst e1 e3
      have hp := hb.prule
      rw [atGo_no_step p i HQ.out l j hjN] at hs
      have HS := Lib.hid hs
      have HXu := Lib.hid hx
      have HU := Lib.hid hu
      have HGr := Lib.hid hg
      have HBk := Lib.hid hb
      have HC : Hid (∀ w', wr.grownBy w' none → w'.cell? ⟨g, o + j, none⟩ = some (.int .u64 l[j])) := Lib.hid (fun w' hw => by
        obtain ⟨g', o', c'', e'', _, _, hc', _⟩ := ((H.out.kept hg).kept hw).atU hjN
        injection e'' with e1 e2 e3
        injection e1 with e1
        injection e1 with e1 e1'
        subst e1 e1'
        exact hc')
      generalize l[j] = y at *
      clear hx hg hb hs hu e2 HX
      go_wp2_with fail
      go_region_held3 (fun w' => (∀ o, w'.cell? ⟨w.heap.size, o, none⟩ = (#[.int .u64 p.P, .int .u64 p.Q, .int .u64 p.G, .int .u64 p.H, .int .i64 p.Nodes, .int .i64 p.N, .int .i64 p.T, .int .i64 p.K, .int .i64 p.D, .int .i64 p.R, .int .i64 p.M, .int .i64 p.X] : Array Value)[o]?) ∧ w'.cell? ⟨g, o + j, none⟩ = some (.int .u64 y)) (first | (exact ⟨by assumption, by assumption⟩) | exact ⟨rule_alloc (by assumption) (by assumption) _, by assumption⟩ | go_keep)
        (first
        | (go_at_call 62; (with_reducible refine (rpower_any p HP.out y 0 _ HU.out u64_zero).mono ?_); rintro e' w2 ⟨rfl, hg⟩; have HG2 := Lib.hid ((grownBy_drewN (World.grownBy.refl wr none) 1).trans hg); have HB2 := Lib.hid (HBk.out.grown HG2.out (by simp)); have hp2 := HB2.out.prule; have hs2 := HB2.out.lt; have hc2 := HC.out w2 HG2.out; have hc3 := HC.out (w2.alloc (Obj.cells #[.int .u64 x, .int .u64 (powI y 0 p.P)] 22)) (HG2.out.trans (World.grownBy_alloc w2 _ none)); clear hg)
        | (go_at_call 52; (with_reducible refine (rtimes_two p x (powI y 0 p.P) w2 HP.out HXu.out (powI_U64' y 0 p.P)).mono ?_); rintro e' w3 ⟨rfl, hg⟩; have HG3 := Lib.hid (HG2.out.trans hg); have HB3 := Lib.hid (HB2.out.grown hg (by simp)); have hp3 := HB3.out.prule; have hc4 := HC.out w3 HG3.out; clear hg))
      go_wp2
      go_roundg k
      case measure => omega
      case rel => exact ⟨j + 1, _, by omega, by go_num, rfl, Lib.hid ⟨timesI_U64 _ _, HGr.out.trans HG3.out, HB3.out, HS.out⟩⟩
set_option maxHeartbeats 400000 in
theorem rat_no1 (p : Par) (v : Value) (l : List Int) (i : Int) (X : Nat → Prop) (w : World) (hp : p.ok) (h : Sl encU X w v l) (_hi : U64 i) (hq : mayB p.Q = false) (h0 : 2305843009213693952 < p.Q) :
    Calls Try.prog 53 #[p.v, v, .int .u64 i] w fun e' w' => e' = .returned (.int .u64 (atI p l i)) ∧ w.grownBy w' none := by
  have H := Lib.hid h
  have HP := Lib.hid hp
  have HQ := Lib.hid hq
  have hq0 := hp.Q.1
  have HAt : Hid (atI p l i = atGo p i (l.drop 0) (timesI p.P []) 0) := Lib.hid (by rw [atI, mulI_no _ _ _ hq]; rfl)
  obtain ⟨A, c, rfl, h1, h2⟩ := h.form
  have hb : (p.Q == 0) = false := by simp; omega
  have hb' : decide (2305843009213693952 < p.Q) = true := by simpa using h0
  clear h _hi hp hq
  go_enter Try.func53, Try.ntmps53
  go_wp2_with fail
  refine (rtimes_nil p _ HP.out).mono ?_
  rintro e w1 ⟨rfl, hg⟩
  have HG := Lib.hid hg
  have HB : Hid (Bk w1 w.heap.size 24 p.cells) := Lib.hid ((Bk.new w _ _).grown hg (by simp))
  have hc1 := HB.out.prule
  have HS : Hid (U64 (timesI p.P []) ∧ w.grownBy w1 none ∧ Bk w1 w.heap.size 24 p.cells ∧ atGo p i (l.drop 0) (timesI p.P []) 0 = atI p l i) :=
    Lib.hid ⟨timesI_U64 _ _, (World.grownBy_alloc w _ none).trans hg, HB.out, HAt.out.symm⟩
  clear hg
  go_wp2_with fail
  clear HB HG hc1
  go_loopg [7, 8] l.length (fun g sx si wx => ∃ (j : Nat) (x : Int), j + g = l.length ∧ si = .int .i64 j ∧ sx = .int .u64 x ∧ Hid (U64 x ∧ w.grownBy wx none ∧ Bk wx w.heap.size 24 p.cells ∧ atGo p i (l.drop j) x 0 = atI p l i))
  case atStart => exact ⟨0, _, by omega, rfl, rfl, HS⟩
  case round =>
    obtain ⟨j, x, hj, rfl, rfl, HX⟩ := hrel
    cases gk with
    | zero =>
      obtain rfl : j = l.length := by omega
      have HE : Hid (x = atI p l i) := Lib.hid (by have := HX.out.2.2.2; rwa [List.drop_length] at this)
      have HGG := Lib.hid HX.out.2.1
      clear HX
      go_wp2
      go_ret
      exact ⟨ret_u64 HE.out, HGG.out⟩
    | succ k =>
      have hjn : (j : Int) < (l.length : Int) := by omega
      have hjN : j < l.length := by omega
      obtain ⟨hx, hg, hb, hs⟩ := HX.out
      obtain ⟨g, o, c', e', _, _, hc, hu⟩ := (H.out.kept hg).atU hjN
      injection e' with e1 e2 e3
      subst e1 e3
      have hp := hb.prule
      rw [atGo_no_step p i HQ.out l j hjN] at hs
      have HS := Lib.hid hs
      have HXu := Lib.hid hx
      have HU := Lib.hid hu
      have HGr := Lib.hid hg
      have HBk := Lib.hid hb
      have HC : Hid (∀ w', wr.grownBy w' none → w'.cell? ⟨g, o + j, none⟩ = some (.int .u64 l[j])) := Lib.hid (fun w' hw => by
        obtain ⟨g', o', c'', e'', _, _, hc', _⟩ := ((H.out.kept hg).kept hw).atU hjN
        injection e'' with e1 e2 e3
        injection e1 with e1
        injection e1 with e1 e1'
        subst e1 e1'
        exact hc')
      generalize l[j] = y at *
      clear hx hg hb hs hu e2 HX
      go_wp2_with fail
      go_region_held3 (fun w' => (∀ o, w'.cell? ⟨w.heap.size, o, none⟩ = (#[.int .u64 p.P, .int .u64 p.Q, .int .u64 p.G, .int .u64 p.H, .int .i64 p.Nodes, .int .i64 p.N, .int .i64 p.T, .int .i64 p.K, .int .i64 p.D, .int .i64 p.R, .int .i64 p.M, .int .i64 p.X] : Array Value)[o]?) ∧ w'.cell? ⟨g, o + j, none⟩ = some (.int .u64 y)) (first | (exact ⟨by assumption, by assumption⟩) | exact ⟨rule_alloc (by assumption) (by assumption) _, by assumption⟩ | go_keep)
        (first
        | (go_at_call 62; (with_reducible refine (rpower_any p HP.out y 0 _ HU.out u64_zero).mono ?_); rintro e' w2 ⟨rfl, hg⟩; have HG2 := Lib.hid ((grownBy_drewN (World.grownBy.refl wr none) 1).trans hg); have HB2 := Lib.hid (HBk.out.grown HG2.out (by simp)); have hp2 := HB2.out.prule; have hs2 := HB2.out.lt; have hc2 := HC.out w2 HG2.out; have hc3 := HC.out (w2.alloc (Obj.cells #[.int .u64 x, .int .u64 (powI y 0 p.P)] 22)) (HG2.out.trans (World.grownBy_alloc w2 _ none)); clear hg)
        | (go_at_call 52; (with_reducible refine (rtimes_two p x (powI y 0 p.P) w2 HP.out HXu.out (powI_U64' y 0 p.P)).mono ?_); rintro e' w3 ⟨rfl, hg⟩; have HG3 := Lib.hid (HG2.out.trans hg); have HB3 := Lib.hid (HB2.out.grown hg (by simp)); have hp3 := HB3.out.prule; have hc4 := HC.out w3 HG3.out; clear hg))
      go_wp2
      go_roundg k
      case measure => omega
      case rel => exact ⟨j + 1, _, by omega, by go_num, rfl, Lib.hid ⟨timesI_U64 _ _, HGr.out.trans HG3.out, HB3.out, HS.out⟩⟩
theorem rat_all (p : Par) (v : Value) (l : List Int) (i : Int) (X : Nat → Prop) (w : World) (hp : p.ok) (h : Sl encU X w v l) (hi : U64 i) :
    Calls Try.prog 53 #[p.v, v, .int .u64 i] w fun e' w' => e' = .returned (.int .u64 (atI p l i)) ∧ w.grownBy w' none := by
  cases hq : mayB p.Q with
  | true => exact rat_may p v l i X w hp h hi hq
  | false =>
    rcases may_cases hq hp.Q.1 with h0 | h0
    · exact rat_no0 p v l i X w hp h hi hq h0
    · exact rat_no1 p v l i X w hp h hi hq h0
end Go.Proofs.Ytphbcfpiklmmeaa

namespace Go.Proofs.Ytphbcfpiklmmeaa
open Go

section
variable {P : Program} {ops : Array Oper} {Q : Exit → Act → World → Prop} {n : Nat} {a0 : Act} {w0 : World}

def ToldC (u : Value) (dst : Option Tmp) (ds : List Deferred) (K : World → Prop) : Exit → Act → World → Prop := fun e a' w' => e = .normal ∧ a'.defers = ds ∧ (match dst with | some d => a'.eval (.tmp d) | none => undef) = u ∧ K w'
def FlagR (P : Program) (ops : Array Oper) (n : Nat) (a0 : Act) (C : Array Bool → World → Prop) (us : List Value) : Nat → Nat → List Oper → Prop
  | 0, _, _ => True
  | _ + 1, _, [] => False
  | k + 1, i, o :: os => (∃ js : List (Nat × Tmp), (pairB ops i js && lookB ops n i js) = true ∧ ∀ D w, D.size = ops.size → D.getD i false = false → (∀ k, av ops i n k = false → D.getD k false = false) → C D w → Ask P ops (us.map Pv.eq) (ToldC (us.getD i undef) o.dst a0.defers (C (D.setIfInBounds i true))) o w js a0) ∧ FlagR P ops n a0 C us k (i + 1) os
theorem FlagR.out {C : Array Bool → World → Prop} {us : List Value} : ∀ {k i : Nat} {os : List Oper}, FlagR P ops n a0 C us k i os → ∀ m o, m < k → os[m]? = some o → ∃ js : List (Nat × Tmp), (pairB ops (i + m) js && lookB ops n (i + m) js) = true ∧ ∀ D w, D.size = ops.size → D.getD (i + m) false = false → (∀ k, av ops (i + m) n k = false → D.getD k false = false) → C D w → Ask P ops (us.map Pv.eq) (ToldC (us.getD (i + m) undef) o.dst a0.defers (C (D.setIfInBounds (i + m) true))) o w js a0
  | 0, _, _, _, m, o, hm, _ => by omega
  | _ + 1, _, [], h, _, _, _, _ => h.elim
  | k + 1, i, o :: os, h, m, o', hm, ho => by
    cases m with
    | zero =>
      obtain rfl : o = o' := by simpa using ho
      exact h.1
    | succ m =>
      have := FlagR.out h.2 m o' (by omega) (by simpa using ho)
      rwa [show i + 1 + m = i + (m + 1) by omega] at this
theorem FlagR.step {C : Array Bool → World → Prop} {us : List Value} {k i : Nat} {o : Oper} {os : List Oper} (js : List (Nat × Tmp)) (hc : (pairB ops i js && lookB ops n i js) = true) (hA : ∀ D w, D.size = ops.size → D.getD i false = false → (∀ k, av ops i n k = false → D.getD k false = false) → C D w → Ask P ops (us.map Pv.eq) (ToldC (us.getD i undef) o.dst a0.defers (C (D.setIfInBounds i true))) o w js a0) (h : FlagR P ops n a0 C us k (i + 1) os) : FlagR P ops n a0 C us (k + 1) i (o :: os) := ⟨⟨js, hc, hA⟩, h⟩
end
end Go.Proofs.Ytphbcfpiklmmeaa

namespace Go.Proofs.Ytphbcfpiklmmeaa
open Go Go.RowKit

section
variable {P : Program} {ops : Array Oper} {md : Region.Mode} {R : Act → World → Prop} {Q : Exit → Act → World → Prop} {l0 n : Nat}
end
end Go.Proofs.Ytphbcfpiklmmeaa

namespace Go.Proofs.Ytphbcfpiklmmeaa
open Go

section
variable {P : Program} {ops : Array Oper} {md : Region.Mode} {Q : Exit → Act → World → Prop} {n nn : Nat} {a0 : Act} {w0 : World}
def FinI (nn : Nat) (P : Program) (ops : Array Oper) (Q : Exit → Act → World → Prop) (w : World) : List Pv → List Oper → Act → Prop
  | V :: Vs, o :: os, a => ∀ x, V.p x w → FinI nn P ops Q w Vs os (a.put o.dst x)
  | _, os, a => wpListIn Fence.wide nn P ops Q os a w
theorem FinI.cut {w : World} : ∀ {Vs : List Pv} {os : List Oper} {a : Act}, Vs.length ≤ os.length → FinI nn P ops Q w Vs os a → Fin' (fun a w => wpListIn Fence.wide nn P ops Q (os.drop Vs.length) a w) w Vs (os.take Vs.length) a
  | [], os, a, _, h => by
    have h : wpListIn Fence.wide nn P ops Q os a w := by cases os <;> exact h
    exact h
  | V :: Vs, [], a, hl, _ => by simp at hl
  | V :: Vs, o :: os, a, hl, h => fun x hx => FinI.cut (Vs := Vs) (os := os) (by simpa using hl) (h x hx)
end
end Go.Proofs.Ytphbcfpiklmmeaa

namespace Go.Proofs.Ytphbcfpiklmmeaa
open Go Go.RowKit

section
variable {F : Fence} {n : Nat} {P : Program}
/-- The loop's own record, and the block of what is put off. -/
structure Recs (B : Nat) (r : Loop) (W : World) : Prop where
  lp : W.heap[B + 1]? = some (.loop r)
  df : W.heap[B]? = some (.deferred (some []))
theorem Recs.from {B : Nat} {r : Loop} {W W' : World} (h : Recs B r W) (hk : KeepsFrom B W W') : Recs B r W' := ⟨hk.same _ _ (by omega) h.lp rfl, hk.same _ _ (Nat.le_refl _) h.df rfl⟩
theorem Recs.put {B : Nat} {r : Loop} {W : World} (h : Recs B r W) (r' : Loop) : Recs B r' (W.putObj (B + 1) (.loop r')) := ⟨World.putObj_heap_same (Array.getElem?_eq_some_iff.1 h.lp).1, (World.putObj_heap_other (by omega)).trans h.df⟩
theorem Recs.walk {B : Nat} {r : Loop} {W W' : World} {row : Option Nat} (h : Recs B r W) (hg : W.grownBy W' row) (hr : ∀ k, row = some k → ∃ o : Obj, W.heap[k]? = some o ∧ o.isWalk = true) : Recs B r W' := ⟨(grownBy_keeps hg hr h.lp rfl).trans h.lp, (grownBy_keeps hg hr h.df rfl).trans h.df⟩
end
end Go.Proofs.Ytphbcfpiklmmeaa

namespace Go.Proofs.Ytphbcfpiklmmeaa
open Go Go.RowKit Go.Shelf

attribute [local go_sem] Oper.semAt_some
/-- What a round of the iterator keeps: what lay below n₀, and the two boxes. -/
def KpAB (n₀ Ba Bb : Nat) (A B : World) : Prop := Below n₀ A B ∧ B.heap[Ba]? = A.heap[Ba]? ∧ B.heap[Bb]? = A.heap[Bb]?
theorem KpAB.refl (n₀ Ba Bb : Nat) (A : World) : KpAB n₀ Ba Bb A A := ⟨Below.refl _ _, rfl, rfl⟩
theorem KpAB.drew (n₀ Ba Bb : Nat) (A : World) : KpAB n₀ Ba Bb A A.drew := ⟨⟨rfl, rfl, rfl, Nat.le_refl _, fun _ _ => rfl⟩, rfl, rfl⟩
theorem KpAB.trans {n₀ Ba Bb : Nat} {A B C : World} (h : KpAB n₀ Ba Bb A B) (k : KpAB n₀ Ba Bb B C) : KpAB n₀ Ba Bb A C := ⟨h.1.trans k.1, k.2.1.trans h.2.1, k.2.2.trans h.2.2⟩
end Go.Proofs.Ytphbcfpiklmmeaa

namespace Go.Proofs.Ytphbcfpiklmmeaa
open Go Go.RowKit Go.Shelf

attribute [local go_sem] Oper.semAt_some
abbrev SS {α : Type} (E : Enc α) (X : Nat → Prop) (w₀ : World) (G : List α → Prop) := { x : (Value × List α) × (Value × List α) // (Sl E X w₀ x.1.1 x.1.2 ∧ G x.1.2) ∧ (Sl E X w₀ x.2.1 x.2.2 ∧ G x.2.2) }
def SS.lists {α : Type} {E : Enc α} {X : Nat → Prop} {w₀ : World} {G : List α → Prop} (x : SS E X w₀ G) : List α × List α := (x.1.1.2, x.1.2.2)
end Go.Proofs.Ytphbcfpiklmmeaa

namespace Go.Proofs.Ytphbcfpiklmmeaa
open Go Go.RowKit Go.Shelf

attribute [local go_sem] Oper.semAt_some
theorem KpAB.b {n₀ Ba Bb : Nat} {w : World} (hn : n₀ ≤ w.heap.size) (ha : Ba < w.heap.size) (hb : Bb < w.heap.size) (W : World) (l : Nat) (o o' : Obj) (hl : w.heap.size ≤ l) (h : W.heap[l]? = some o) (h1 : o.isCells = false) (h2 : o.isWalk = false) : KpAB n₀ Ba Bb W (W.putObj l o') := by
  have hlt := (Array.getElem?_eq_some_iff.1 h).1
  have hg := grownBy_putObj' W l o'
  exact ⟨belowK_b hn W l o o' hl h h1 h2, hg.block _ (by omega) (fun e => by injection e with e; omega), hg.block _ (by omega) (fun e => by injection e with e; omega)⟩
theorem Acc.keeps {α : Type} {E : Enc α} {base : Nat} {e : TypeId} {X : Nat → Prop} {w w' : World} {v : Value} {xs : List α} (h : Acc E base e X w v xs) (hg : w.grownBy w' v.ownBlock) : KeepsOthers w w' := KeepsOthers.of_grownBy hg fun j o ej hj => by
  obtain ⟨_, css, _, _, h3⟩ := h
  rcases h3.2 with ⟨rfl, _⟩ | ⟨g, cap, cur, rfl, _, hgb, _⟩
  · simp [Value.ownBlock] at ej
  · obtain rfl : g = j := by simpa [Value.ownBlock] using ej
    rw [hgb] at hj
    cases hj
    rfl
theorem keeps_none {w w' : World} (hg : w.grownBy w' none) : KeepsOthers w w' := KeepsOthers.of_grownBy hg (by simp)
section
variable {α : Type} {P : Program} {E : Enc α} {base : Nat} {e : TypeId} {X Y : Nat → Prop} {w : World} {v : Value} {xs : List α} {l0 n : Nat}
end
end Go.Proofs.Ytphbcfpiklmmeaa

namespace Go.Proofs.Ytphbcfpiklmmeaa
open Go Go.RowKit Go.Shelf

attribute [local go_sem] Oper.semAt_some
/-- What a round keeps: what lay below n₀, and four boxes. -/
def Kp4 (n₀ B1 B2 B3 B4 : Nat) (A B : World) : Prop := Below n₀ A B ∧ B.heap[B1]? = A.heap[B1]? ∧ B.heap[B2]? = A.heap[B2]? ∧ B.heap[B3]? = A.heap[B3]? ∧ B.heap[B4]? = A.heap[B4]?
theorem Kp4.refl (n₀ B1 B2 B3 B4 : Nat) (A : World) : Kp4 n₀ B1 B2 B3 B4 A A := ⟨Below.refl _ _, rfl, rfl, rfl, rfl⟩
theorem Kp4.trans {n₀ B1 B2 B3 B4 : Nat} {A B C : World} (h : Kp4 n₀ B1 B2 B3 B4 A B) (k : Kp4 n₀ B1 B2 B3 B4 B C) : Kp4 n₀ B1 B2 B3 B4 A C := ⟨h.1.trans k.1, k.2.1.trans h.2.1, k.2.2.1.trans h.2.2.1, k.2.2.2.1.trans h.2.2.2.1, k.2.2.2.2.trans h.2.2.2.2⟩
theorem Kp4.grown {n₀ B1 B2 B3 B4 : Nat} {A B : World} (hg : A.grownBy B none) (hn : n₀ ≤ A.heap.size) (h1 : B1 < A.heap.size) (h2 : B2 < A.heap.size) (h3 : B3 < A.heap.size) (h4 : B4 < A.heap.size) : Kp4 n₀ B1 B2 B3 B4 A B :=
  ⟨(below_grown hg).mono hn, hg.block _ h1 (by simp), hg.block _ h2 (by simp), hg.block _ h3 (by simp), hg.block _ h4 (by simp)⟩
theorem Kp4.b {n₀ B1 B2 B3 B4 : Nat} {w : World} (hn : n₀ ≤ w.heap.size) (h1 : B1 < w.heap.size) (h2 : B2 < w.heap.size) (h3 : B3 < w.heap.size) (h4 : B4 < w.heap.size) (W : World) (l : Nat) (o o' : Obj) (hl : w.heap.size ≤ l) (h : W.heap[l]? = some o) (k1 : o.isCells = false) (k2 : o.isWalk = false) : Kp4 n₀ B1 B2 B3 B4 W (W.putObj l o') := by
  have hlt := (Array.getElem?_eq_some_iff.1 h).1
  have hg := grownBy_putObj' W l o'
  exact ⟨belowK_b hn W l o o' hl h k1 k2, hg.block _ (by omega) (fun e => by injection e with e; omega), hg.block _ (by omega) (fun e => by injection e with e; omega), hg.block _ (by omega) (fun e => by injection e with e; omega), hg.block _ (by omega) (fun e => by injection e with e; omega)⟩
end Go.Proofs.Ytphbcfpiklmmeaa

namespace Go.Proofs.Ytphbcfpiklmmeaa
open Go Go.RowKit Go.Shelf

attribute [local go_sem] Oper.semAt_some
end Go.Proofs.Ytphbcfpiklmmeaa

namespace Go.Proofs.Ytphbcfpiklmmeaa
open Go Go.RowKit Go.Shelf

attribute [local go_sem] Oper.semAt_some
/-- The round of share: what it was begun with. -/
structure ShE where
  w : World
  W0 : World
  W : World
  q : Int
  p1 : Int
  p2 : Int
  p1' : Int
  p2' : Int
  B1 : Nat
  B2 : Nat
  C1 : Nat
  C2 : Nat
  C3 : Nat
  C4 : Nat
structure ShE.Ok (e : ShE) : Prop where
  b1 : e.w.heap.size < e.B1
  b2 : e.w.heap.size < e.B2
  b12 : e.B1 ≠ e.B2
  c1 : e.B1 < e.C1 ∧ e.B2 < e.C1 ∧ e.C1 < e.W0.heap.size
  c2 : e.B1 < e.C2 ∧ e.B2 < e.C2 ∧ e.C2 < e.W0.heap.size
  c3 : e.B1 < e.C3 ∧ e.B2 < e.C3 ∧ e.C3 < e.W0.heap.size
  c4 : e.B1 < e.C4 ∧ e.B2 < e.C4 ∧ e.C4 < e.W0.heap.size
/-- Where the world stands, by what was written. -/
structure ShE.At (e : ShE) (x y : Bool) (V : World) : Prop where
  q : Boxed V e.w.heap.size 22 (.int .u64 e.q)
  one : Boxed V e.B1 22 (.int .u64 (if x then e.p1' else e.p1))
  two : Boxed V e.B2 22 (.int .u64 (if y then e.p2' else e.p2))
  from' : KeepsFrom e.W0.heap.size e.W V
  kp : Kp4 e.w.heap.size e.C1 e.C2 e.C3 e.C4 e.W V
  bl : Below e.w.heap.size e.w V
  sz : e.W0.heap.size ≤ V.heap.size
theorem ShE.At.grown {e : ShE} (k : e.Ok) {x y : Bool} {V V' : World} (h : e.At x y V) (hg : V.grownBy V' none) : e.At x y V' := by
  have h1 := k.c1
  have h2 := k.c2
  have h3 := k.c3
  have h4 := k.c4
  have h5 := h.sz
  have h6 := k.b1
  exact ⟨h.q.kept hg (by simp), h.one.kept hg (by simp), h.two.kept hg (by simp), h.from'.trans ((keeps_none hg).from _), h.kp.trans (Kp4.grown hg (by omega) (by omega) (by omega) (by omega) (by omega)), h.bl.trans ((below_grown hg).mono (by omega)), Nat.le_trans h.sz hg.size⟩
/-- .. told by what was listed. -/
def ShE.C (e : ShE) (D : Array Bool) (V : World) : Prop := e.At (D.getD 8 false) (D.getD 9 false) V
theorem ShE.C.grown {e : ShE} (k : e.Ok) {D : Array Bool} {V V' : World} (h : e.C D V) (hg : V.grownBy V' none) (i : Nat) (h8 : i ≠ 8) (h9 : i ≠ 9) : e.C (D.setIfInBounds i true) V' := by
  unfold ShE.C
  rw [getD_set_ne false h8, getD_set_ne false h9]
  exact ShE.At.grown k h hg
theorem ShE.C.one {e : ShE} {D : Array Bool} {V : World} (h : e.C D V) (h8 : D.getD 8 false = false) : Boxed V e.B1 22 (.int .u64 e.p1) := by
  have := ShE.At.one h
  rw [h8] at this
  exact this
theorem ShE.C.two {e : ShE} {D : Array Bool} {V : World} (h : e.C D V) (h9 : D.getD 9 false = false) : Boxed V e.B2 22 (.int .u64 e.p2) := by
  have := ShE.At.two h
  rw [h9] at this
  exact this
end Go.Proofs.Ytphbcfpiklmmeaa

namespace Go.Proofs.Ytphbcfpiklmmeaa
open Go Go.RowKit Go.Shelf Go.Maps

/-- The numbers of a list, each once. -/
def seenL (l : List Int) : List Int := l.foldl (fun s x => bif s.contains x then s else s ++ [x]) []
theorem seenL_snoc (l : List Int) (x : Int) : seenL (l ++ [x]) = bif (seenL l).contains x then seenL l else seenL l ++ [x] := by simp only [seenL, List.foldl_append, List.foldl_cons, List.foldl_nil]
/-- A map of what was met. -/
def Met' (D : DataW Unit) (pre : List Int) : Prop := Maps.Tidy D ∧ Maps.size D = (seenL pre).length ∧ ∀ x, Maps.has D (.int .u64 x) = (seenL pre).contains x
theorem Met'.nil : Met' (.map []) [] := ⟨tidy_empty, rfl, fun _ => rfl⟩
theorem Met'.put {D : DataW Unit} {pre : List Int} (h : Met' D pre) (x : Int) (d : DataW Unit) : Met' (D.put (.int .u64 x) d) (pre ++ [x]) := by
  obtain ⟨h1, h2, h3⟩ := h
  have hk : WideAt.IsKeyLit (.int .u64 x) := trivial
  refine ⟨h1.put hk d, ?_, fun y => ?_⟩
  · rw [size_put h1, h3 x, seenL_snoc]
    cases (seenL pre).contains x
    · simp [h2]
    · simp [h2]
  · rw [seenL_snoc]
    by_cases e : y = x
    · subst e
      rw [has_put_same h1.isMap hk]
      cases hc : (seenL pre).contains y
      · simp
      · simp only [cond_true, hc]
    · rw [has_put_other (by intro e'; injection e' with _ e'; exact e e'), h3 y]
      cases (seenL pre).contains x
      · have e' : (y == x) = false := by simpa using e
        simp [e]
      · rfl
end Go.Proofs.Ytphbcfpiklmmeaa

namespace Go.Proofs.Ytphbcfpiklmmeaa
open Go Go.RowKit Go.Shelf

end Go.Proofs.Ytphbcfpiklmmeaa

namespace Go.Proofs.Ytphbcfpiklmmeaa
open Go Go.RowKit Go.Shelf

attribute [local go_sem] Oper.semAt_some
end Go.Proofs.Ytphbcfpiklmmeaa

namespace Go.Proofs.Ytphbcfpiklmmeaa
open Go Go.RowKit

end Go.Proofs.Ytphbcfpiklmmeaa

namespace Go.Proofs.Ytphbcfpiklmmeaa
open Go Go.RowKit

def secretsI (p : Par) : Int := wrap64 (p.K * wrap64 (p.D + 1))
end Go.Proofs.Ytphbcfpiklmmeaa

namespace Go.Proofs.Ytphbcfpiklmmeaa
open Go Go.RowKit Go.Shelf

end Go.Proofs.Ytphbcfpiklmmeaa

namespace Go.Proofs.Ytphbcfpiklmmeaa
open Go Go.RowKit Go.Shelf

end Go.Proofs.Ytphbcfpiklmmeaa

namespace Go.Proofs.Ytphbcfpiklmmeaa
open Go Go.RowKit Go.Shelf

end Go.Proofs.Ytphbcfpiklmmeaa

namespace Go.Proofs.Ytphbcfpiklmmeaa
open Go Go.RowKit Go.Shelf

end Go.Proofs.Ytphbcfpiklmmeaa

namespace Go.Proofs.Ytphbcfpiklmmeaa
open Go Go.RowKit

/-- A list of a column that is too short or too long. -/
def shortB (p : Par) (x : List Int) : Bool := !((x.length : Int) == wrap64 (p.T + 1))
end Go.Proofs.Ytphbcfpiklmmeaa

namespace Go.Proofs.Ytphbcfpiklmmeaa
open Go.RowKit

end Go.Proofs.Ytphbcfpiklmmeaa

namespace Go.Proofs.Ytphbcfpiklmmeaa
open Go Go.RowKit

end Go.Proofs.Ytphbcfpiklmmeaa

namespace Go.Proofs.Ytphbcfpiklmmeaa
open Go Go.RowKit

end Go.Proofs.Ytphbcfpiklmmeaa

namespace Go.Proofs.Ytphbcfpiklmmeaa
open Go Go.RowKit

end Go.Proofs.Ytphbcfpiklmmeaa

namespace Go.Proofs.Ytphbcfpiklmmeaa
open Go Go.RowKit

end Go.Proofs.Ytphbcfpiklmmeaa

namespace Go.Proofs.Ytphbcfpiklmmeaa
open Go Go.RowKit

end Go.Proofs.Ytphbcfpiklmmeaa

namespace Go.Proofs.Ytphbcfpiklmmeaa
open Go Go.RowKit

/-- A dealing that is not as long as it should be. -/
def badB (p : Par) (d : Int × List (List Int)) : Bool := !((d.2.length : Int) == secretsI p) || d.2.any (shortB p)
/-- Two lists built side by side: numbers, and lists of lists that lay there ahead. -/
structure Two (base : Nat) (wx : World) (v6 v7 : Value) (xs : List Int) (cs : List (List (List Int))) : Prop where
  fst : Acc encI base 3 (fun g => base ≤ g ∧ some g ≠ v7.ownBlock) wx v6 xs
  snd : Acc (encS (encS encU)) base 33 (fun g => g < base ∨ some g ≠ v6.ownBlock) wx v7 cs
theorem Two.kept {base : Nat} {wx w' : World} {v6 v7 : Value} {xs : List Int} {cs : List (List (List Int))} (h : Two base wx v6 v7 xs cs) (hg : wx.grownBy w' none) : Two base w' v6 v7 xs cs := ⟨h.fst.kept hg, h.snd.kept hg⟩
theorem Two.one {base : Nat} {wx w' : World} {v6 v7 v6' : Value} {xs xs' : List Int} {cs : List (List (List Int))} (h : Two base wx v6 v7 xs cs) (ha : Acc encI base 3 (fun g => base ≤ g ∧ some g ≠ v7.ownBlock) w' v6' xs') (hg : wx.grownBy w' v6.ownBlock) (hm : Moved wx v6 v6') : Two base w' v6' v7 xs' cs := by
  refine ⟨ha, ?_⟩
  have h1 : Acc (encS (encS encU)) base 33 (fun g => (g < base ∨ some g ≠ v6'.ownBlock) ∧ some g ≠ v6.ownBlock) wx v7 cs := h.snd.more fun g hg hx => by
    rcases hx with hx | hx
    · exact ⟨.inl hx, fun e => by have := (h.fst.lt g e.symm).1; omega⟩
    · exact ⟨.inr fun e => hm.ne hg (fun e' => hx e'.symm) e.symm, hx⟩
  exact (h1.keep hg fun g hx => hx.2).more fun g _ hx => hx.1
theorem Two.two {base : Nat} {wx w' : World} {v6 v7 v7' : Value} {xs : List Int} {cs cs' : List (List (List Int))} (h : Two base wx v6 v7 xs cs) (ha : Acc (encS (encS encU)) base 33 (fun g => g < base ∨ some g ≠ v6.ownBlock) w' v7' cs') (hg : wx.grownBy w' v7.ownBlock) (hm : Moved wx v7 v7') : Two base w' v6 v7' xs cs' := by
  refine ⟨?_, ha⟩
  have h1 : Acc encI base 3 (fun g => (base ≤ g ∧ some g ≠ v7'.ownBlock) ∧ some g ≠ v7.ownBlock) wx v6 xs := h.fst.more fun g hg hx => ⟨⟨hx.1, fun e => hm.ne hg (fun e' => hx.2 e'.symm) e.symm⟩, hx.2⟩
  exact (h1.keep hg fun g hx => hx.2).more fun g _ hx => hx.1
theorem Two.hZ {base : Nat} {wx : World} {v6 v7 : Value} {xs : List Int} {cs : List (List (List Int))} (h : Two base wx v6 v7 xs cs) {w' : World} : ∀ (c : List Value) (y : List (List Int)), (encS (encS encU)).rep (fun g => g < base) w' c y → (encS (encS encU)).rep (fun g => (g < base ∨ some g ≠ v6.ownBlock) ∧ some g ≠ v7.ownBlock) w' c y := fun c y hr => (encS (encS encU)).more hr fun g _ hx => ⟨.inl hx, fun e => by have := (h.snd.lt g e.symm).1; omega⟩
/-- The first j dealings are as long as they should be. -/
def OkTo (p : Par) (deals : List (Int × List (List Int))) (j : Nat) : Prop := ∀ i (h : i < deals.length), i < j → badB p deals[i] = false
theorem OkTo.all {p : Par} {deals : List (Int × List (List Int))} (h : OkTo p deals deals.length) : ∀ d ∈ deals, badB p d = false := fun d hd => by
  obtain ⟨i, hi, rfl⟩ := List.getElem_of_mem hd
  exact h i hi hi
theorem grown_two {w : World} {a b : Obj} : w.grownBy ((w.alloc a).alloc b) none := (World.grownBy_alloc w _ none).trans (World.grownBy_alloc _ _ none)
theorem Bk.one {w : World} {b : Nat} {t : TypeId} {u : Value} (h : Bk w b t #[u]) : ∀ j v, [u][j]? = some v → w.cell? ⟨b, j, none⟩ = some v := fun j v hv => by rw [h.cell j]; simpa using hv
section
variable {α : Type} {P : Program} {E : Enc α} {base : Nat} {e : TypeId} {X : Nat → Prop} {w : World} {v : Value} {xs : List α}
/-- append(out, y): the thing y lies in a block that is known. -/
theorem pushAt_core {cs : List Value} {y : α} {t : TypeId} {bytes b c : Nat} (hE : ElemOk P t e E.size bytes) (hacc : Acc E base e X w v xs) (hrep : E.rep (fun g => X g ∧ some g ≠ v.ownBlock) w cs y) (hcell : ∀ j u, cs[j]? = some u → w.cell? ⟨b, j, none⟩ = some u)
    (hlen : (xs.length + 1) * bytes ≤ 140737488355328) (hb : base ≤ w.heap.size) (hN : ∀ g, w.heap.size ≤ g → X g)
    {o : Oper} {a : Act} {K : Act → World → Prop} {Q : Exit → Act → World → Prop} (s x : Operand)
    (ho : o.op = .call { callee := .builtin .append, args := #[s, x], argTypes := #[t, t] }) (hs : a.eval s = v) (hx : a.eval x = .slice (some ⟨b, 0, none⟩) 1 c)
    (h : ∀ v' w', Acc E base e X w' v' (xs ++ [y]) → w.grownBy w' v.ownBlock → Moved w v v' → K (a.put o.dst v') w') : o.wp P a w K Q := by
  obtain ⟨_, css, h1, _, h3⟩ := id hacc
  have hcl := E.len hrep
  refine wp_app s x t ho (size := E.size) hE E.pos hs h3 (some ⟨b, 0, none⟩) 1 c cs hx (by rw [hcl, Nat.one_mul]) (by simp) ?_ (E.ones hrep) hlen hb ?_
  · intro ad e' j u hu
    injection e' with e'
    subst e'
    rw [← hcell j u hu]
    unfold Addr.add
    split
    · rename_i h0
      have : j = 0 := by simpa using h0
      subst this
      rfl
    · simp
  · intro v' w' hown hg hat
    have hat' : Moved w v v' := hat.imp id fun e => ⟨_, Nat.le_refl _, e⟩
    refine h v' w' (hacc.app (cs2 := [cs]) (ys := [y]) rfl (fun i hi hi' => ?_) (fun css' hc' => ?_) hg hat' hN) hg hat'
    · have : i = 0 := by simp at hi; omega
      subst this
      exact hrep
    · have e1 : css' = css.flatten := own_same hc' h3
      rw [e1]
      simpa using hown
end
end Go.Proofs.Ytphbcfpiklmmeaa

namespace Go.Proofs.Ytphbcfpiklmmeaa
open Go Go.RowKit Go.Shelf

attribute [local go_sem] Oper.semAt_some
theorem Sl.cap {α : Type} {E : Enc α} {X : Nat → Prop} {w : World} {A : Option Addr} {n c : Nat} {xs : List α} (h : Sl E X w (.slice A n c) xs) (c' : Nat) (h1 : n ≤ c') (h2 : c' ≤ 9223372036854775807) : Sl E X w (.slice A n c') xs := by
  obtain ⟨A', c0, e, _, _, h3⟩ := h
  injection e with e1 e2 _
  subst e1 e2
  exact ⟨_, c', rfl, h1, h2, h3⟩
end Go.Proofs.Ytphbcfpiklmmeaa

namespace Go.Proofs.Ytphbcfpiklmmeaa
open Go

/-- Where the worlds stand when some late operations are over, these having told values; and what the k-th of them does to what lay there. -/
structure Lt where
  C : List Value → World → Prop
  R : Nat → World → World → Prop
  g : ∀ {vs w w'}, C vs w → w.grownBy w' none → C vs w'
/-- What is known of a value, and stands: as long as nothing is written, and through the late operations from the fr-th on. -/
structure Qv (L : Lt) where
  p : List Value → Value → World → Prop
  fr : Nat
  st : ∀ {vs v w w'}, p vs v w → w.grownBy w' none → p vs v w'
  sr : ∀ {vs u v w w'}, fr ≤ vs.length → L.C vs w → L.R vs.length w w' → p vs v w → p (vs ++ [u]) v w'
def Qv.any {L : Lt} : Qv L := ⟨fun _ _ _ => True, 0, fun _ _ => trivial, fun _ _ _ _ => trivial⟩
def Qv.eq {L : Lt} (u : Value) : Qv L := ⟨fun _ v _ => v = u, 0, fun h _ => h, fun _ _ _ h => h⟩
/-- What the q-th late operation has told. -/
def Qv.slot {L : Lt} (q : Nat) : Qv L := ⟨fun vs v _ => vs[q]? = some v, q + 1, fun h _ => h, fun _ _ _ h => by
  have := (List.getElem?_eq_some_iff.1 h).1
  rw [List.getElem?_append_left this]
  exact h⟩
section
variable {L : Lt} {late : List Nat} {P : Program} {ops : Array Oper} {Q : Exit → Act → World → Prop} {n : Nat} {a0 : Act} {w0 : World}

def ToldL (T : Value → World → Prop) (dst : Option Tmp) (ds : List Deferred) : Exit → Act → World → Prop := fun e a' w' => e = .normal ∧ a'.defers = ds ∧ T (match dst with | some d => a'.eval (.tmp d) | none => undef) w'
def Ask' (P : Program) (ops : Array Oper) (vs : List Value) (Vs : List (Qv L)) (Qt : Exit → Act → World → Prop) (o : Oper) (w : World) : List (Nat × Tmp) → Act → Prop
  | [], a => wpList P ops Qt [o] a w
  | (j, d) :: js, a => ∀ x, (Vs.getD j Qv.any).p vs x w → Ask' P ops vs Vs Qt o w js (a.put (some d) x)
/-- What is asked of one operation. -/
def AskL (L : Lt) (late : List Nat) (P : Program) (ops : Array Oper) (Vs : List (Qv L)) (ds : List Deferred) (i : Nat) (V : Qv L) (o : Oper) (js : List (Nat × Tmp)) (a0 : Act) : Prop :=
  (late.contains i = false ∧ V.fr = 0 ∧ ∀ vs w, L.C vs w → Ask' P ops vs Vs (ToldL (fun v w' => V.p vs v w' ∧ w.grownBy w' none) o.dst ds) o w js a0) ∨
  (∃ q, late[q]? = some i ∧ V = Qv.slot q ∧ ∀ vs w, vs.length = q → L.C vs w → Ask' P ops vs Vs (ToldL (fun v w' => L.R q w w' ∧ L.C (vs ++ [v]) w') o.dst ds) o w js a0)
def LateR (L : Lt) (late : List Nat) (P : Program) (ops : Array Oper) (n : Nat) (a0 : Act) (F : List (Qv L) → Prop) : Nat → List (Qv L) → List Oper → Prop
  | 0, Rs, _ => F Rs.reverse
  | _ + 1, _, [] => False
  | k + 1, Rs, o :: os => ∃ (V : Qv L) (js : List (Nat × Tmp)), (pairB ops Rs.length js && lookB ops n Rs.length js) = true ∧ AskL L late P ops Rs.reverse a0.defers Rs.length V o js a0 ∧ LateR L late P ops n a0 F k (V :: Rs) os
theorem LateR.mono {F : List (Qv L) → Prop} {k : Nat} {Rs : List (Qv L)} {o : Oper} {os : List Oper} (V : Qv L) (js : List (Nat × Tmp)) (hc : (pairB ops Rs.length js && lookB ops n Rs.length js) = true) (hl : late.contains Rs.length = false) (hf : V.fr = 0) (hA : ∀ vs w, L.C vs w → Ask' P ops vs Rs.reverse (ToldL (fun v w' => V.p vs v w' ∧ w.grownBy w' none) o.dst a0.defers) o w js a0) (h : LateR L late P ops n a0 F k (V :: Rs) os) : LateR L late P ops n a0 F (k + 1) Rs (o :: os) := ⟨V, js, hc, .inl ⟨hl, hf, hA⟩, h⟩
theorem LateR.out {F : List (Qv L) → Prop} : ∀ {k : Nat} {Rs : List (Qv L)} {os : List Oper}, LateR L late P ops n a0 F k Rs os → k ≤ os.length ∧ ∃ Ws : List (Qv L), Ws.length = k ∧ F (Rs.reverse ++ Ws) ∧ ∀ m o, m < k → os[m]? = some o → ∃ V js, Ws[m]? = some V ∧ (pairB ops (Rs.length + m) js && lookB ops n (Rs.length + m) js) = true ∧ AskL L late P ops ((Rs.reverse ++ Ws).take (Rs.length + m)) a0.defers (Rs.length + m) V o js a0
  | 0, Rs, os, h => ⟨Nat.zero_le _, [], rfl, by rw [List.append_nil]; exact h, fun m o hm => by omega⟩
  | _ + 1, _, [], h => h.elim
  | k + 1, Rs, o :: os, ⟨V, js, hb, hA, hM⟩ => by
    obtain ⟨hkl, Ws, hl, hF, hk⟩ := LateR.out hM
    refine ⟨by simpa using hkl, V :: Ws, by simp [hl], by simpa using hF, fun m o' hm ho => ?_⟩
    cases m with
    | zero =>
      obtain rfl : o = o' := by simpa using ho
      refine ⟨V, js, rfl, hb, ?_⟩
      have : (Rs.reverse ++ V :: Ws).take (Rs.length + 0) = Rs.reverse := by
        rw [Nat.add_zero, ← List.length_reverse]
        exact List.take_left
      rw [this]
      exact hA
    | succ m =>
      obtain ⟨V', js', h1, h2, h3⟩ := hk m o' (by omega) (by simpa using ho)
      refine ⟨V', js', by simpa using h1, ?_, ?_⟩
      · simpa [Nat.add_assoc, Nat.add_comm 1 m] using h2
      · simpa [Nat.add_assoc, Nat.add_comm 1 m] using h3
def FinL' (G : Act → World → Prop) (vs : List Value) (w : World) : List (Qv L) → List Oper → Act → Prop
  | V :: Vs, o :: os, a => ∀ x, V.p vs x w → FinL' G vs w Vs os (a.put o.dst x)
  | _, _, a => G a w
theorem FinL'.all {G : Act → World → Prop} {vs : List Value} {w : World} {b : Act} : ∀ {Vs : List (Qv L)} {os : List Oper} {a : Act}, Vs.length = os.length → (∀ (k : Nat) (V : Qv L) (o : Oper), Vs[k]? = some V → os[k]? = some o → V.p vs (match o.dst with | some d => b.eval (.tmp d) | none => undef) w) → FinL' G vs w Vs os a → G (onto b (os.map (·.dst)) a) w
  | [], [], _, _, _, h => h
  | V :: Vs, o :: os, a, hl, hx, h => FinL'.all (Vs := Vs) (os := os) (by simpa using hl) (fun k V o hv ho => hx (k + 1) V o (by simpa using hv) (by simpa using ho)) (h _ (hx 0 V o rfl rfl))
  | [], _ :: _, _, hl, _, _ => by simp at hl
  | _ :: _, [], _, hl, _, _ => by simp at hl
theorem Ask'.all {vs : List Value} {Vs : List (Qv L)} {Qt : Exit → Act → World → Prop} {o : Oper} {w : World} {b : Act} : ∀ {js : List (Nat × Tmp)} {a : Act}, (∀ x : Nat × Tmp, x ∈ js → (Vs.getD x.1 Qv.any).p vs (b.eval (.tmp x.2)) w) → Ask' P ops vs Vs Qt o w js a → wpList P ops Qt [o] (onto b (js.map fun x => some x.2) a) w
  | [], _, _, h => h
  | (j, d) :: js, a, hx, h => Ask'.all (js := js) (fun x hm => hx x (List.mem_cons_of_mem _ hm)) (h _ (hx (j, d) (by simp)))
/-- What is behind them. -/
def FinL (P : Program) (ops : Array Oper) (Q : Exit → Act → World → Prop) (vs : List Value) (w : World) : List (Qv L) → List Oper → Act → Prop
  | V :: Vs, o :: os, a => ∀ x, V.p vs x w → FinL P ops Q vs w Vs os (a.put o.dst x)
  | _, os, a => wpList P ops Q os a w
theorem FinL.cut {vs : List Value} {w : World} : ∀ {Vs : List (Qv L)} {os : List Oper} {a : Act}, Vs.length ≤ os.length → FinL P ops Q vs w Vs os a → FinL' (fun a w => wpList P ops Q (os.drop Vs.length) a w) vs w Vs (os.take Vs.length) a
  | [], os, a, _, h => by
    have h : wpList P ops Q os a w := by cases os <;> exact h
    exact h
  | V :: Vs, [], a, hl, _ => by simp at hl
  | V :: Vs, o :: os, a, hl, h => fun x hx => FinL.cut (Vs := Vs) (os := os) (by simpa using hl) (h x hx)
theorem LateR.weak {F G : List (Qv L) → Prop} : ∀ {k : Nat} {Rs : List (Qv L)} {os : List Oper}, LateR L late P ops n a0 F k Rs os → (∀ Ws, Ws.length = Rs.length + k → F Ws → G Ws) → LateR L late P ops n a0 G k Rs os
  | 0, Rs, _, h, hg => hg _ (by simp) h
  | _ + 1, _, [], h, _ => h.elim
  | k + 1, Rs, o :: os, ⟨V, js, hb, hA, hM⟩, hg => ⟨V, js, hb, hA, LateR.weak hM fun Ws hW => hg Ws (by simp at hW ⊢; omega)⟩
end
end Go.Proofs.Ytphbcfpiklmmeaa

namespace Go.Proofs.Ytphbcfpiklmmeaa
open Go Go.RowKit Go.Shelf

attribute [local go_sem] Oper.semAt_some
/-- Two lists built side by side. -/
structure Side {α β : Type} (E : Enc α) (F : Enc β) (base : Nat) (e f : TypeId) (Z : Nat → Prop) (w : World) (v u : Value) (xs : List α) (ys : List β) : Prop where
  fst : Acc E base e (fun g => Z g ∧ some g ≠ u.ownBlock) w v xs
  snd : Acc F base f (fun g => Z g ∧ some g ≠ v.ownBlock) w u ys
section
variable {α β : Type} {E : Enc α} {F : Enc β} {base : Nat} {e f : TypeId} {Z : Nat → Prop} {w w' : World} {v u v' u' : Value} {xs xs' : List α} {ys ys' : List β}
theorem Side.kept (h : Side E F base e f Z w v u xs ys) (hg : w.grownBy w' none) : Side E F base e f Z w' v u xs ys := ⟨h.fst.kept hg, h.snd.kept hg⟩
theorem Side.swap (h : Side E F base e f Z w v u xs ys) : Side F E base f e Z w u v ys xs := ⟨h.snd, h.fst⟩
theorem Side.one (h : Side E F base e f Z w v u xs ys) (ha : Acc E base e (fun g => Z g ∧ some g ≠ u.ownBlock) w' v' xs') (hg : w.grownBy w' v.ownBlock) (hm : Moved w v v') : Side E F base e f Z w' v' u xs' ys := by
  refine ⟨ha, ?_⟩
  have h1 : Acc F base f (fun g => (Z g ∧ some g ≠ v'.ownBlock) ∧ some g ≠ v.ownBlock) w u ys := h.snd.more fun g hg hx => ⟨⟨hx.1, fun e => hm.ne hg (fun e' => hx.2 e'.symm) e.symm⟩, hx.2⟩
  exact (h1.keep hg fun g hx => hx.2).more fun g _ hx => hx.1
theorem Side.two (h : Side E F base e f Z w v u xs ys) (ha : Acc F base f (fun g => Z g ∧ some g ≠ v.ownBlock) w' u' ys') (hg : w.grownBy w' u.ownBlock) (hm : Moved w u u') : Side E F base e f Z w' v u' xs ys' := (h.swap.one ha hg hm).swap
end
theorem Side.keep {α β : Type} {E : Enc α} {F : Enc β} {base : Nat} {e f : TypeId} {Z : Nat → Prop} {w w' : World} {v u : Value} {xs : List α} {ys : List β} {row : Option Nat} (h : Side E F base e f Z w v u xs ys) (hg : w.grownBy w' row) (hZ : ∀ g, Z g → some g ≠ row) : Side E F base e f Z w' v u xs ys := ⟨h.fst.keep hg fun g hx => hZ g hx.1, h.snd.keep hg fun g hx => hZ g hx.1⟩
theorem Side.keepc {α β : Type} {E : Enc α} {F : Enc β} {base : Nat} {e f : TypeId} {Z : Nat → Prop} {w w' : World} {v u : Value} {xs : List α} {ys : List β} {row : Option Nat} (h : Side E F base e f Z w v u xs ys) (hg : w.grownBy w' row) (hr : ∀ r, row = some r → ∃ o : Obj, w.heap[r]? = some o ∧ o.isCells = false) : Side E F base e f Z w' v u xs ys := ⟨h.fst.keepc hg hr, h.snd.keepc hg hr⟩
theorem cellK {w w' : World} {g o : Nat} {u : Value} {row : Option Nat} (h : w.cell? ⟨g, o, none⟩ = some u) (hg : w.grownBy w' row) (hne : some g ≠ row) : w'.cell? ⟨g, o, none⟩ = some u := (World.cell?_of_block (w := w) (hg.block g (block_lt_of_cell h) hne)).trans h
section
variable {base : Nat} {W wd w' w3 : World} {vW vB u v3 : Value} {g8 d : Nat} {bv : Int} {xsW : List (List Int)} {xsB : List Int} {yW : List Int}
end
theorem grownSet (w : World) (g o : Nat) (v : Value) : w.grownBy (w.setCell ⟨g, o, none⟩ v) (some g) := ⟨rfl, rfl, rfl, by simp [World.setCell], fun k _ hne => Below.heap_setCell w ⟨g, o, none⟩ v k (fun e => hne (by rw [e]))⟩
theorem grownSetUp {w w1 : World} (h : w.grownBy w1 none) {g : Nat} (o : Nat) (v : Value) (hg : w.heap.size ≤ g) : w.grownBy (w1.setCell ⟨g, o, none⟩ v) none := grown_up h (grownSet w1 g o v) (fun k e => by injection e with e; omega)
theorem Sl.shape {α : Type} {E : Enc α} {X : Nat → Prop} {w : World} {v : Value} {xs : List α} (h : Sl E X w v xs) : ∃ A n c, v = .slice A n c := by
  obtain ⟨A, c, e, _, _⟩ := h.form
  exact ⟨_, _, _, e⟩
end Go.Proofs.Ytphbcfpiklmmeaa

namespace Go.Proofs.Ytphbcfpiklmmeaa
open Go.RowKit

def Quietly (w : World) (v : Value) (e : Ending) (w' : World) : Prop := e = .returned v ∧ ∃ n, w' = w.drewN n

set_option maxHeartbeats 400000 in
theorem nums_eq (v1 v2 : Value) (xs : List Int) (X Y : Nat → Prop) (w : World) (h1 : Sl encU X w v1 xs) (h2 : Sl encU Y w v2 xs) :
    Calls Try.prog 14 #[v1, v2] w (Quietly w (.bool true)) := by
  have H1 := Lib.hid h1
  have H2 := Lib.hid h2
  obtain ⟨A1, c1, rfl, hc1, hc2⟩ := h1.form
  obtain ⟨A2, c2, rfl, _, _⟩ := h2.form
  clear h1 h2
  have HST : Hid (∃ n, w = w.drewN n) := Lib.hid ⟨0, rfl⟩
  go_enter Try.func14, Try.ntmps14
  go_wp2_with fail
  go_loopg [5] xs.length (fun g s5 wx => ∃ j : Nat, j + g = xs.length ∧ s5 = .int .i64 j ∧ Hid (∃ n, wx = w.drewN n))
  case atStart => exact ⟨0, by omega, rfl, HST⟩
  case round =>
    obtain ⟨j, hj, rfl, HX⟩ := hrel
    obtain ⟨n0, rfl⟩ := HX.out
    cases gk with
    | zero =>
      obtain rfl : j = xs.length := by omega
      clear HX HST
      go_wp2
      go_ret
      exact ⟨rfl, _, rfl⟩
    | succ m =>
      have hjn : (j : Int) < (xs.length : Int) := by omega
      have hj0 : (0 : Int) ≤ (j : Int) := by omega
      have hjN : j < xs.length := by omega
      obtain ⟨g1, o1, c1', e1, _, _, a1, u1⟩ := H1.out.atU hjN
      injection e1 with e11 e12 e13
      subst e11 e13
      obtain ⟨g2, o2, c2', e2, _, _, a2, _⟩ := H2.out.atU hjN
      injection e2 with e21 e22 e23
      subst e21 e23
      clear HX HST e12 e22
      generalize xs[j] = y at *
      go_wp2_with fail
      go_quiet (fail)
      go_wp2_with fail
      go_roundg m
      case measure => omega
      case rel => exact ⟨j + 1, by omega, by go_num, Lib.hid ⟨_, rfl⟩⟩

set_option maxHeartbeats 400000 in
theorem same_eq (v1 v2 : Value) (xs : List (Int × Int)) (X Y : Nat → Prop) (w : World) (h1 : Sl encP X w v1 xs) (h2 : Sl encP Y w v2 xs) :
    Calls Try.prog 6 #[v1, v2] w (Quietly w (.bool true)) := by
  have H1 := Lib.hid h1
  have H2 := Lib.hid h2
  obtain ⟨A1, c1, rfl, hc1, hc2⟩ := h1.form
  obtain ⟨A2, c2, rfl, _, _⟩ := h2.form
  clear h1 h2
  have HST : Hid (∃ n, w = w.drewN n) := Lib.hid ⟨0, rfl⟩
  go_enter Try.func6, Try.ntmps6
  go_wp2_with fail
  go_loopg [5] xs.length (fun g s5 wx => ∃ j : Nat, j + g = xs.length ∧ s5 = .int .i64 j ∧ Hid (∃ n, wx = w.drewN n))
  case atStart => exact ⟨0, by omega, rfl, HST⟩
  case round =>
    obtain ⟨j, hj, rfl, HX⟩ := hrel
    obtain ⟨n0, rfl⟩ := HX.out
    cases gk with
    | zero =>
      obtain rfl : j = xs.length := by omega
      clear HX HST
      go_wp2
      go_ret
      exact ⟨rfl, _, rfl⟩
    | succ m =>
      have hjn : (j : Int) < (xs.length : Int) := by omega
      have hj0 : (0 : Int) ≤ (j : Int) := by omega
      have hjN : j < xs.length := by omega
      obtain ⟨g1, o1, c1', e1, _, _, a1, b1, u1, u2⟩ := H1.out.atP hjN
      injection e1 with e11 e12 e13
      subst e11 e13
      obtain ⟨g2, o2, c2', e2, _, _, a2, b2, _, _⟩ := H2.out.atP hjN
      injection e2 with e21 e22 e23
      subst e21 e23
      clear HX HST e12 e22
      generalize xs[j].1 = y1 at *
      generalize xs[j].2 = y2 at *
      go_wp2_with fail
      go_quiet (fail)
      go_wp2_with fail
      go_roundg m
      case measure => omega
      case rel => exact ⟨j + 1, by omega, by go_num, Lib.hid ⟨_, rfl⟩⟩

end Go.Proofs.Ytphbcfpiklmmeaa

namespace Go.Proofs.Ytphbcfpiklmmeaa
open Go Go.RowKit

end Go.Proofs.Ytphbcfpiklmmeaa

namespace Go.Proofs.Ytphbcfpiklmmeaa
open Go Go.RowKit

end Go.Proofs.Ytphbcfpiklmmeaa

namespace Go.Proofs.Ytphbcfpiklmmeaa
open Go.RowKit

def triedL : List Int := [2, 3, 5, 7, 11, 13, 17, 19, 23, 29, 31, 37]
/-- Squares until n - 1 is met. -/
def witB (n : Int) : Nat → Int → Bool
  | 0, _ => false
  | k + 1, x => x == n - 1 || witB n k (mulI x x n)
def passB (n a : Int) (t : Nat) : Bool := powI a ((n - 1) / 2 ^ t) n == 1 || witB n t (powI a ((n - 1) / 2 ^ t) n)
def goB (n : Int) (t : Nat) : List Int → Bool
  | [] => true
  | a :: l => if n % a = 0 then decide (n = a) else if passB n a t then goB n t l else false
def primeB (n : Int) : Bool := if n < 2 ∨ 2305843009213693952 < n then false else goB n (Lib.ctz 64 (n - 1).toNat) triedL

end Go.Proofs.Ytphbcfpiklmmeaa

namespace Go.Proofs.Ytphbcfpiklmmeaa
open Go.ChangeShapes Go.WideShapes Go.RowKit

theorem u64_wf {a : Int} (h : (Lit.int .u64 a).wf = true) : U64 a := by
  have := bounds_u64 h
  unfold U64
  omega
theorem i64_wf {a : Int} (h : (Lit.int .i64 a).wf = true) : I64 a := by
  have := bounds_i64 h
  unfold I64
  omega
/-- Whatever is read at this type reads so. -/
def Reads {α : Type} (E : Enc α) (t : TypeId) : Prop :=
  ∀ {H : Type} {enc : TypeId × Value → H} {w : World} {base : Nat} {spare : Nat → Bool} {held : Bool} {fuel : Nat} {cs : List Value} {x : DataW H × List MemPlace},
    DataW.trod enc Try.prog w base spare held fuel t cs = some x → ∃ a, E.rep (fun _ => True) w cs a
theorem reads_u64 {t : TypeId} (ht : Try.prog.underlying t = some (.int .u64)) : Reads encU t := by
  intro H enc w base spare held fuel cs x h
  obtain ⟨n, rfl, _, hw⟩ := DataW.trod_int ht h
  exact ⟨n, rfl, u64_wf hw⟩
theorem reads_pair {t u : TypeId} {f0 f1 : Field} (ht : Try.prog.underlying t = some (.struct #[f0, f1])) (h0 : f0.type = u ∧ f0.offset = 0) (h1 : f1.type = u ∧ f1.offset = 1)
    (hu : Try.prog.underlying u = some (.int .u64)) (hc : Try.prog.cellsOf t = 2) (hcu : Try.prog.cellsOf u = 1) : Reads encP t := by
  intro H enc w base spare held fuel cs x h
  obtain ⟨y0, y1, n, _, hl, e0, e1⟩ := trod_struct2 ht h
  rw [h0.1, h0.2, hcu] at e0
  rw [h1.1, h1.2, hcu] at e1
  obtain ⟨a, ea, _, wa⟩ := DataW.trod_int hu e0
  obtain ⟨b, eb, _, wb⟩ := DataW.trod_int hu e1
  rw [hc] at hl
  match cs, hl with
  | [c0, c1], _ =>
    simp at ea eb
    subst ea eb
    exact ⟨(a, b), rfl, u64_wf wa, u64_wf wb⟩
end Go.Proofs.Ytphbcfpiklmmeaa

namespace Go.Proofs.Ytphbcfpiklmmeaa
open Go.RowKit

def withinB (x lo hi : Int) : Bool := decide (lo ≤ x) && decide (x ≤ hi)
def m1 (p : Par) : Bool := decide (2 ≤ p.P) && decide (p.P ≤ 2305843009213693952) && decide (2 ≤ p.Q) && ((p.P - 1) % p.Q == 0)
def m2 (p : Par) : Bool := withinB p.T 1 2
def m3 (p : Par) : Bool := withinB p.N (3 * p.T + 1) 7 && decide (p.N < p.Q)
def m4 (p : Par) : Bool := withinB p.Nodes p.N 8
def m5 (p : Par) : Bool := withinB p.K 1 2 && withinB p.D 1 4
def m6 (p : Par) : Bool := withinB p.R 1 p.D
def m7 (p : Par) : Bool := withinB p.M 1 1048576 && withinB p.X 1 1048576
def m8 (p : Par) : Bool := decide (2 * (p.D * p.M * p.X + p.M) < p.Q)
def m9 (p : Par) : Bool := primeB p.Q && primeB p.P
def m10 (p : Par) : Bool := decide (p.G ≠ 1) && isB p p.G && decide (p.H ≠ 1) && isB p p.H
end Go.Proofs.Ytphbcfpiklmmeaa

namespace Go.Proofs.Ytphbcfpiklmmeaa
open Go.RowKit

def ms (p : Par) : List Bool := [m1 p, m2 p, m3 p, m4 p, m5 p, m6 p, m7 p, m8 p, m9 p, m10 p]
end Go.Proofs.Ytphbcfpiklmmeaa

namespace Go.Proofs.Ytphbcfpiklmmeaa
open Go.RowKit

end Go.Proofs.Ytphbcfpiklmmeaa

namespace Go.Proofs.Ytphbcfpiklmmeaa
open Go.RowKit

theorem mayB_pos {q : Int} (hq : mayB q = true) : 0 < q := by simp [mayB] at hq; exact hq.1
/-- Places from 1 to n, each once. -/
def Places (n : Int) (xs : List Int) : Prop := (∀ x ∈ xs, 1 ≤ x ∧ x ≤ n) ∧ xs.Nodup
end Go.Proofs.Ytphbcfpiklmmeaa

namespace Go.Proofs.Ytphbcfpiklmmeaa
open Go.RowKit

end Go.Proofs.Ytphbcfpiklmmeaa

namespace Go.Proofs.Ytphbcfpiklmmeaa
open Go.RowKit

theorem nodup_le : ∀ (l s : List Int), l.Nodup → (∀ x ∈ l, x ∈ s) → l.length ≤ s.length
  | [], _, _, _ => Nat.zero_le _
  | x :: l, s, hn, hs => by
    obtain ⟨h1, h2⟩ := List.nodup_cons.1 hn
    have hx := hs x (by simp)
    have := nodup_le l (s.erase x) h2 fun y hy => (List.mem_erase_of_ne (fun e => h1 (by rw [← e]; exact hy))).2 (hs y (by simp [hy]))
    rw [List.length_erase_of_mem hx] at this
    have h3 := List.length_pos_of_mem hx
    simp only [List.length_cons]
    omega
theorem Places.len {n : Int} {xs : List Int} (h : Places n xs) (hn : n ≤ 7) : xs.length ≤ 7 := by
  refine nodup_le xs [1, 2, 3, 4, 5, 6, 7] h.2 fun x hx => ?_
  · skip
    have := h.1 x hx
    have : x = 1 ∨ x = 2 ∨ x = 3 ∨ x = 4 ∨ x = 5 ∨ x = 6 ∨ x = 7 := by omega
    rcases this with rfl | rfl | rfl | rfl | rfl | rfl | rfl <;> simp
end Go.Proofs.Ytphbcfpiklmmeaa

namespace Go.Proofs.Ytphbcfpiklmmeaa

/-- The value of a polynomial at i. -/
def evZ (i : Int) : List Int → Int
  | [] => 0
  | x :: l => x + i * evZ i l
end Go.Proofs.Ytphbcfpiklmmeaa

namespace Go.Proofs.Ytphbcfpiklmmeaa

end Go.Proofs.Ytphbcfpiklmmeaa

namespace Go.Proofs.Ytphbcfpiklmmeaa
open Go Go.RowKit

/-- Three lists built side by side. -/
structure Tri {α β γ : Type} (E : Enc α) (F : Enc β) (G : Enc γ) (base : Nat) (e f g : TypeId) (Z : Nat → Prop) (w : World) (v u t : Value) (xs : List α) (ys : List β) (zs : List γ) : Prop where
  fst : Acc E base e (fun b => Z b ∧ some b ≠ u.ownBlock ∧ some b ≠ t.ownBlock) w v xs
  snd : Acc F base f (fun b => Z b ∧ some b ≠ v.ownBlock ∧ some b ≠ t.ownBlock) w u ys
  trd : Acc G base g (fun b => Z b ∧ some b ≠ v.ownBlock ∧ some b ≠ u.ownBlock) w t zs
section
variable {α β γ : Type} {E : Enc α} {F : Enc β} {G : Enc γ} {base : Nat} {e f g : TypeId} {Z : Nat → Prop} {w w' : World} {v u t v' u' t' : Value} {xs xs' : List α} {ys ys' : List β} {zs zs' : List γ}
theorem Tri.kept (h : Tri E F G base e f g Z w v u t xs ys zs) (hg : w.grownBy w' none) : Tri E F G base e f g Z w' v u t xs ys zs := ⟨h.fst.kept hg, h.snd.kept hg, h.trd.kept hg⟩
theorem Tri.rot (h : Tri E F G base e f g Z w v u t xs ys zs) : Tri F G E base f g e Z w u t v ys zs xs := ⟨h.snd.more fun _ _ x => ⟨x.1, x.2.2, x.2.1⟩, h.trd.more fun _ _ x => ⟨x.1, x.2.2, x.2.1⟩, h.fst⟩
theorem Tri.one (h : Tri E F G base e f g Z w v u t xs ys zs) (ha : Acc E base e (fun b => Z b ∧ some b ≠ u.ownBlock ∧ some b ≠ t.ownBlock) w' v' xs') (hg : w.grownBy w' v.ownBlock) (hm : Moved w v v') : Tri E F G base e f g Z w' v' u t xs' ys zs := by
  have k : ∀ b, b < w.heap.size → some b ≠ v.ownBlock → some b ≠ v'.ownBlock := fun b hb hx e => hm.ne hb (fun e' => hx e'.symm) e.symm
  refine ⟨ha, ?_, ?_⟩
  · have h1 : Acc F base f (fun b => (Z b ∧ some b ≠ v'.ownBlock ∧ some b ≠ t.ownBlock) ∧ some b ≠ v.ownBlock) w u ys := h.snd.more fun b hb hx => ⟨⟨hx.1, k b hb hx.2.1, hx.2.2⟩, hx.2.1⟩
    exact (h1.keep hg fun g hx => hx.2).more fun g _ hx => hx.1
  · have h1 : Acc G base g (fun b => (Z b ∧ some b ≠ v'.ownBlock ∧ some b ≠ u.ownBlock) ∧ some b ≠ v.ownBlock) w t zs := h.trd.more fun b hb hx => ⟨⟨hx.1, k b hb hx.2.1, hx.2.2⟩, hx.2.1⟩
    exact (h1.keep hg fun g hx => hx.2).more fun g _ hx => hx.1
theorem Tri.two (h : Tri E F G base e f g Z w v u t xs ys zs) (ha : Acc F base f (fun b => Z b ∧ some b ≠ v.ownBlock ∧ some b ≠ t.ownBlock) w' u' ys') (hg : w.grownBy w' u.ownBlock) (hm : Moved w u u') : Tri E F G base e f g Z w' v u' t xs ys' zs := ((h.rot.one (ha.more fun _ _ x => ⟨x.1, x.2.2, x.2.1⟩) hg hm).rot.rot)
theorem Tri.nil (E : Enc α) (F : Enc β) (G : Enc γ) (base : Nat) (e f g : TypeId) (Z : Nat → Prop) (w : World) : Tri E F G base e f g Z w (.slice none 0 0) (.slice none 0 0) (.slice none 0 0) [] [] [] := ⟨Acc.nil _ _ _ _ _, Acc.nil _ _ _ _ _, Acc.nil _ _ _ _ _⟩
end
end Go.Proofs.Ytphbcfpiklmmeaa

namespace Go.Proofs.Ytphbcfpiklmmeaa
open Go.RowKit

theorem evalI_cons' (q : Int) (y : Int) (c : List Int) (x : Int) : evalI q (y :: c) x = addI (mulI (evalI q c x) x q) y q := by simp [evalI, evalGo]
theorem evalI_cg' {q : Int} (hq : mayB q = true) (x : Int) : ∀ (c : List Int), Cg q (evalI q c x) (evZ x c)
  | [] => Cg.refl _ _
  | y :: c => by
    rw [evalI_cons', addI_yes _ _ _ hq, mulI_yes _ _ _ hq]
    refine (Cg.mod _ _).trans (((Cg.mod _ _).trans ((evalI_cg' hq x c).mul_right x)).add (Cg.refl _ y) |>.trans (Cg.of_eq ?_))
    show evZ x c * x + y = y + x * evZ x c
    rw [Int.mul_comm, Int.add_comm]
end Go.Proofs.Ytphbcfpiklmmeaa

namespace Go.Proofs.Ytphbcfpiklmmeaa
open Go Go.RowKit

/-- Term by term, with the power of x that comes next. -/
def valR (q x : Int) : List Int → Int → Int → Int
  | [], s, _ => s
  | c :: l, s, e => valR q x l (addI s (mulI c e q) q) (mulI e x q)
theorem valR_yes {q x : Int} (hq : mayB q = true) : ∀ (l : List Int) (s e : Int), 0 ≤ s → s < q → valR q x l s e = (s + e * evZ x l) % q
  | [], s, e, h0, h1 => by
    show s = (s + e * 0) % q
    rw [Int.mul_zero, Int.add_zero, Int.emod_eq_of_lt h0 h1]
  | c :: l, s, e, _, _ => by
    show valR q x l (addI s (mulI c e q) q) (mulI e x q) = (s + e * (c + x * evZ x l)) % q
    rw [valR_yes hq l _ _ (addI_bd _ _ _ hq).1 (addI_bd _ _ _ hq).2, addI_yes _ _ _ hq, mulI_yes _ _ _ hq, mulI_yes _ _ _ hq]
    have h1 : Cg q ((s + c * e % q) % q + e * x % q * evZ x l) (s + e * (c + x * evZ x l)) := by
      refine (Cg.add ((Cg.mod q _).trans (Cg.add (Cg.refl q s) (Cg.mod q _))) ((Cg.mod q _).mul_right _)).trans (Cg.of_eq ?_)
      rw [Int.mul_add, Int.mul_comm c e, Int.mul_assoc, Int.add_assoc]
    exact h1
theorem valR_no {q x : Int} (hq : mayB q = false) : ∀ (l : List Int) (e : Int), valR q x l 0 e = 0
  | [], _ => rfl
  | c :: l, e => by rw [valR, addI_no _ _ _ hq]; exact valR_no hq l _
theorem evalGo_no {q x : Int} (hq : mayB q = false) : ∀ (l : List Int), evalGo q x l 0 = 0
  | [] => rfl
  | c :: l => by
    show evalGo q x l (addI (mulI 0 x q) c q) = 0
    rw [addI_no _ _ _ hq]
    exact evalGo_no hq l
theorem valR_eval (q x : Int) (l : List Int) : valR q x l 0 (mulI 1 1 q) = evalI q l x := by
  cases hq : mayB q with
  | false => rw [valR_no hq, evalI, evalGo_no hq]
  | true =>
    have h0 : 0 < q := mayB_pos hq
    rw [valR_yes hq l 0 _ (Int.le_refl 0) h0, mulI_yes _ _ _ hq, Int.zero_add]
    have h1 : Cg q (1 * 1 % q * evZ x l) (evalI q l x) := (((Cg.mod q _).mul_right _).trans (Cg.of_eq (by omega))).trans (evalI_cg' hq x l).symm
    have h2 : evalI q l x % q = evalI q l x := by
      have hb : 0 ≤ evalI q l x ∧ evalI q l x < q := by
        cases l with
        | nil => exact ⟨Int.le_refl _, h0⟩
        | cons y l =>
          rw [evalI_cons']
          exact addI_bd _ _ _ hq
      exact Int.emod_eq_of_lt hb.1 hb.2
    rw [← h2]
    exact h1
end Go.Proofs.Ytphbcfpiklmmeaa

namespace Go.Proofs.Ytphbcfpiklmmeaa
open Go Go.RowKit Go.Shelf

theorem dvalue_any (x : Int × Int) (w : World) :
    Calls Try.prog 26 #[.agg #[.int .u64 x.1, .int .u64 x.2]] w fun e w' => e = .returned (.int .u64 x.1) ∧ w.grownBy w' none := by
  obtain ⟨a, b⟩ := x
  go_enter Try.func26, Try.ntmps26
  go_wp2
  go_ret
  exact ⟨rfl, World.grownBy_alloc w _ none⟩
set_option maxHeartbeats 1000000 in
theorem each_dvalue_any (v : Value) (l : List (Int × Int)) (X : Nat → Prop) (w : World) (h : Sl encP X w v l) (hb : l.length ≤ 1000) :
    Calls Try.prog 25 #[v, .func (.func 26) #[] #[]] w (Gives encU (fun g => w.heap.size ≤ g) w (l.map (·.1))) := by
  have H := Lib.hid h
  have HB := Lib.hid hb
  obtain ⟨A, c, rfl, hc1, hc2⟩ := h.form
  clear h hb
  go_enter Try.func25, Try.ntmps25
  go_wp2_with fail
  go_loopg [5, 10] l.length (fun g s5 s10 wx => ∃ j : Nat, j + g = l.length ∧ s10 = .int .i64 j ∧ Hid (Acc encU w.heap.size 22 (fun g => w.heap.size ≤ g) wx s5 ((l.take j).map (·.1)) ∧ w.grownBy wx none))
  case atStart => exact ⟨0, by omega, rfl, Lib.hid ⟨Acc.nil _ _ _ _ _, World.grownBy.refl _ none⟩⟩
  case round =>
    obtain ⟨j, hj, rfl, HX⟩ := hrel
    cases gk with
    | zero =>
      obtain rfl : j = l.length := by omega
      have HR : Hid (Sl encU (fun g => w.heap.size ≤ g) wr u5 (l.map (·.1)) ∧ w.grownBy wr none) := Lib.hid ⟨by have := HX.out.1.sl; rwa [List.take_length] at this, HX.out.2⟩
      clear HX
      go_wp2
      go_ret
      exact ⟨_, rfl, HR.out.1, HR.out.2⟩
    | succ m =>
      have hjn : (j : Int) < (l.length : Int) := by omega
      have hjN : j < l.length := by omega
      obtain ⟨hacc, hg⟩ := HX.out
      obtain ⟨g, o, c', e, _, _, hc0, hc1', hu1, hu2⟩ := (H.out.kept hg).atP hjN
      injection e with e1 e2 e3
      subst e1 e3
      have HSN : Hid ((l.take (j + 1)).map (·.1) = (l.take j).map (·.1) ++ [l[j].1]) := Lib.hid (by rw [List.take_succ_eq_append_getElem hjN, List.map_append]; rfl)
      have HU : Hid (U64 l[j].1) := Lib.hid hu1
      have HAC := Lib.hid hacc
      have HG := Lib.hid hg
      have HLB : Hid ((((l.take j).map (·.1)).length + 1) * 8 ≤ 140737488355328) := Lib.hid (by have := HB.out; simp; omega)
      obtain ⟨y, hy⟩ : ∃ y, y = l[j] := ⟨_, rfl⟩
      rw [← hy] at HSN HU hc0 hc1'
      obtain ⟨wa, hwa⟩ : ∃ y2, y2 = wr.alloc (Obj.cells #[.int .u64 y.1, .int .u64 y.2] 44) := ⟨_, rfl⟩
      have HGA : Hid (wr.grownBy wa none) := Lib.hid (by rw [hwa]; exact World.grownBy_alloc _ _ none)
      have hbx : Bk wa wr.heap.size 44 #[.int .u64 y.1, .int .u64 y.2] := by rw [hwa]; exact Bk.new _ _ _
      have HC := Lib.hid (dvalue_any y wa)
      obtain ⟨ya, yb⟩ := y
      simp only at hc0 hc1' HC HSN HU hwa hbx
      have d0 := hbx.cell 0
      have d1 := hbx.cell 1
      simp at d0 d1
      clear hacc hg HX hu1 hu2 e2 hy hbx
      generalize l.length = n at *
      go_wp2_with fail
      rw [← hwa]
      clear hwa
      refine HC.out.mono ?_
      rintro e w1 ⟨rfl, hg1⟩
      have HG1 : Hid (w.grownBy w1 none) := Lib.hid (HG.out.trans (HGA.out.trans hg1))
      have HAC1 := Lib.hid (HAC.out.kept (HGA.out.trans hg1))
      clear hg1 d0 d1 hc0 hc1'
      go_wp2_with (at_builtin; refine wpList_pushG rfl (.tmp 14) (.tmp 18) rfl (E := encU) (y := ya) el_u64 HG1.out HAC1.out (fun _ h => h) ⟨rfl, HU.out⟩ HLB.out rfl rfl ?_)
      intro v2 w2 hacc2 hg2 hgo
      have HFIN : Hid (Acc encU w.heap.size 22 (fun g => w.heap.size ≤ g) w2 v2 ((l.take (j + 1)).map (·.1)) ∧ w.grownBy w2 none) := Lib.hid ⟨by rw [HSN.out]; simpa using hacc2, hg2⟩
      clear hacc2 hg2 hgo
      go_wp2_with fail
      go_roundg m
      case measure => omega
      case rel => exact ⟨j + 1, by omega, by go_num, HFIN⟩
theorem dblinder_any (x : Int × Int) (w : World) :
    Calls Try.prog 27 #[.agg #[.int .u64 x.1, .int .u64 x.2]] w fun e w' => e = .returned (.int .u64 x.2) ∧ w.grownBy w' none := by
  obtain ⟨a, b⟩ := x
  go_enter Try.func27, Try.ntmps27
  go_wp2
  go_ret
  exact ⟨rfl, World.grownBy_alloc w _ none⟩
set_option maxHeartbeats 1000000 in
theorem each_dblinder_any (v : Value) (l : List (Int × Int)) (X : Nat → Prop) (w : World) (h : Sl encP X w v l) (hb : l.length ≤ 1000) :
    Calls Try.prog 25 #[v, .func (.func 27) #[] #[]] w (Gives encU (fun g => w.heap.size ≤ g) w (l.map (·.2))) := by
  have H := Lib.hid h
  have HB := Lib.hid hb
  obtain ⟨A, c, rfl, hc1, hc2⟩ := h.form
  clear h hb
  go_enter Try.func25, Try.ntmps25
  go_wp2_with fail
  go_loopg [5, 10] l.length (fun g s5 s10 wx => ∃ j : Nat, j + g = l.length ∧ s10 = .int .i64 j ∧ Hid (Acc encU w.heap.size 22 (fun g => w.heap.size ≤ g) wx s5 ((l.take j).map (·.2)) ∧ w.grownBy wx none))
  case atStart => exact ⟨0, by omega, rfl, Lib.hid ⟨Acc.nil _ _ _ _ _, World.grownBy.refl _ none⟩⟩
  case round =>
    obtain ⟨j, hj, rfl, HX⟩ := hrel
    cases gk with
    | zero =>
      obtain rfl : j = l.length := by omega
      have HR : Hid (Sl encU (fun g => w.heap.size ≤ g) wr u5 (l.map (·.2)) ∧ w.grownBy wr none) := Lib.hid ⟨by have := HX.out.1.sl; rwa [List.take_length] at this, HX.out.2⟩
      clear HX
      go_wp2
      go_ret
      exact ⟨_, rfl, HR.out.1, HR.out.2⟩
    | succ m =>
      have hjn : (j : Int) < (l.length : Int) := by omega
      have hjN : j < l.length := by omega
      obtain ⟨hacc, hg⟩ := HX.out
      obtain ⟨g, o, c', e, _, _, hc0, hc1', hu1, hu2⟩ := (H.out.kept hg).atP hjN
      injection e with e1 e2 e3
      subst e1 e3
      have HSN : Hid ((l.take (j + 1)).map (·.2) = (l.take j).map (·.2) ++ [l[j].2]) := Lib.hid (by rw [List.take_succ_eq_append_getElem hjN, List.map_append]; rfl)
      have HU : Hid (U64 l[j].2) := Lib.hid hu2
      have HAC := Lib.hid hacc
      have HG := Lib.hid hg
      have HLB : Hid ((((l.take j).map (·.2)).length + 1) * 8 ≤ 140737488355328) := Lib.hid (by have := HB.out; simp; omega)
      obtain ⟨y, hy⟩ : ∃ y, y = l[j] := ⟨_, rfl⟩
      rw [← hy] at HSN HU hc0 hc1'
      obtain ⟨wa, hwa⟩ : ∃ y2, y2 = wr.alloc (Obj.cells #[.int .u64 y.1, .int .u64 y.2] 44) := ⟨_, rfl⟩
      have HGA : Hid (wr.grownBy wa none) := Lib.hid (by rw [hwa]; exact World.grownBy_alloc _ _ none)
      have hbx : Bk wa wr.heap.size 44 #[.int .u64 y.1, .int .u64 y.2] := by rw [hwa]; exact Bk.new _ _ _
      have HC := Lib.hid (dblinder_any y wa)
      obtain ⟨ya, yb⟩ := y
      simp only at hc0 hc1' HC HSN HU hwa hbx
      have d0 := hbx.cell 0
      have d1 := hbx.cell 1
      simp at d0 d1
      clear hacc hg HX hu1 hu2 e2 hy hbx
      generalize l.length = n at *
      go_wp2_with fail
      rw [← hwa]
      clear hwa
      refine HC.out.mono ?_
      rintro e w1 ⟨rfl, hg1⟩
      have HG1 : Hid (w.grownBy w1 none) := Lib.hid (HG.out.trans (HGA.out.trans hg1))
      have HAC1 := Lib.hid (HAC.out.kept (HGA.out.trans hg1))
      clear hg1 d0 d1 hc0 hc1'
      go_wp2_with (at_builtin; refine wpList_pushG rfl (.tmp 14) (.tmp 18) rfl (E := encU) (y := yb) el_u64 HG1.out HAC1.out (fun _ h => h) ⟨rfl, HU.out⟩ HLB.out rfl rfl ?_)
      intro v2 w2 hacc2 hg2 hgo
      have HFIN : Hid (Acc encU w.heap.size 22 (fun g => w.heap.size ≤ g) w2 v2 ((l.take (j + 1)).map (·.2)) ∧ w.grownBy w2 none) := Lib.hid ⟨by rw [HSN.out]; simpa using hacc2, hg2⟩
      clear hacc2 hg2 hgo
      go_wp2_with fail
      go_roundg m
      case measure => omega
      case rel => exact ⟨j + 1, by omega, by go_num, HFIN⟩
/-- What a list of coefficients tells at a place. -/
def atP (q x : Int) (c : List (Int × Int)) : Int × Int := (evalI q (c.map (·.1)) x, evalI q (c.map (·.2)) x)
theorem results_pair {fn : Func} {W : World} {B4 : Nat} {a b : Value} (h : fn.results = #[.cell 4 44]) (tmps : Array Value) (h4 : tmps.getD 4 undef = .pointer (some ⟨B4, 0, none⟩)) (hb4 : Bk W B4 44 #[a, b]) : (results fn tmps).run Try.prog W = .ok (.agg #[a, b]) W := by
  have r1 := run_loadVar_row (P := Try.prog) W B4 44 44 #[a, b] (0, 0) _ hb4 Try.underlying44 rfl (by kernel_rfl)
  have h4' : tmps[4]?.getD undef = .pointer (some ⟨B4, 0, none⟩) := by simpa using h4
  simp [results, h, h4', asAddr, r1]
set_option maxRecDepth 100000 in
set_option maxHeartbeats 2000000 in
theorem atOne_any (v : Value) (c : List (Int × Int)) (x q : Int) (Bx Bq : Nat) (X : Nat → Prop) (w : World) (h : Sl encP X w v c) (hx : U64 x) (hb : c.length ≤ 1000) (bx : Bk w Bx 22 #[.int .u64 x]) (bq : Bk w Bq 22 #[.int .u64 q]) :
    Calls Try.prog 23 #[v, .pointer (some ⟨Bx, 0, none⟩), .pointer (some ⟨Bq, 0, none⟩)] w fun e w' => e = .returned (.agg #[.int .u64 (atP q x c).1, .int .u64 (atP q x c).2]) ∧ w.grownBy w' none := by
  have H := Lib.hid h
  have HU := Lib.hid hx
  have HBX := Lib.hid bx
  have HBQ := Lib.hid bq
  have HB := Lib.hid hb
  obtain ⟨A, cc, rfl, _, _⟩ := h.form
  obtain ⟨w0, hw0⟩ : ∃ y, y = w.alloc (Obj.cells #[.int .u64 0, .int .u64 0] 44) := ⟨_, rfl⟩
  obtain ⟨B0, hB0⟩ : ∃ y, y = w.heap.size := ⟨_, rfl⟩
  have HG0 : Hid (w.grownBy w0 none) := Lib.hid (by rw [hw0]; exact World.grownBy_alloc _ _ none)
  have HBR : Hid (Bk w0 B0 44 #[.int .u64 0, .int .u64 0]) := Lib.hid (by rw [hw0, hB0]; exact Bk.new _ _ _)
  have HBE : Hid (w.heap.size ≤ B0) := Lib.hid (by rw [hB0]; exact Nat.le_refl _)
  clear h hx bx bq hb
  go_enter Try.func23, Try.ntmps23
  go_upto_region 1 with (fail)
  rw [← hw0, ← hB0]
  clear hw0 hB0
  have HD : Hid (w0.grownBy w0.drew none) := Lib.hid (grown_drewN' _ 1)
  have HLD : Hid (∀ W, w0.drew.grownBy W none → W.cell? ⟨Bx, 0, none⟩ = some (.int .u64 x) ∧ W.cell? ⟨Bq, 0, none⟩ = some (.int .u64 q)) := Lib.hid (fun W hg => by
    have h := HG0.out.trans (HD.out.trans hg)
    exact ⟨by simpa using (HBX.out.grown h (by simp)).cell 0, by simpa using (HBQ.out.grown h (by simp)).cell 0⟩)
  have HEV : Hid (∀ W, w0.drew.grownBy W none → Calls Try.prog 25 #[.slice A c.length cc, .func (.func 26) #[] #[]] W (Gives encU (fun g => W.heap.size ≤ g) W (c.map (·.1)))) := Lib.hid (fun W hg => each_dvalue_any _ c X W (H.out.kept (HG0.out.trans (HD.out.trans hg))) HB.out)
  have HEB : Hid (∀ W, w0.drew.grownBy W none → Calls Try.prog 25 #[.slice A c.length cc, .func (.func 27) #[] #[]] W (Gives encU (fun g => W.heap.size ≤ g) W (c.map (·.2)))) := Lib.hid (fun W hg => each_dblinder_any _ c X W (H.out.kept (HG0.out.trans (HD.out.trans hg))) HB.out)
  refine wp_region_mono 11 (by kernel_rfl) (by kernel_rfl) ?_
  -- op 0 (slot 5): move
  refine MonoR.step (Pv.eq (.slice A c.length cc)) [] (by kernel_rfl) (fun w' hw' => ?_) ?_
  · refine ask_do rfl fun K hK => ?_
    go_simp
    exact hK _ _ rfl rfl (World.grownBy.refl _ none)
  -- op 1 (slot 6): call
  refine MonoR.step (Pv.sl encU TT (c.map (·.1))) [(0, 5)] (by kernel_rfl) (fun w' hw' => ?_) ?_
  · rintro _ rfl
    refine ask_do rfl fun K hK => ?_
    go_simp
    refine (HEV.out w' hw').mono ?_
    rintro e w3 ⟨v3, rfl, hs3, hg3⟩
    exact hK _ _ rfl (hs3.more fun _ _ _ => trivial) hg3
  -- op 2 (slot 7): load
  refine MonoR.step (Pv.eq (.int .u64 x)) [] (by kernel_rfl) (fun w' hw' => ?_) ?_
  · refine ask_do rfl fun K hK => ?_
    obtain ⟨q0, q1⟩ := HLD.out w' hw'
    go_simp
    exact hK _ _ rfl rfl (World.grownBy.refl _ none)
  -- op 3 (slot 8): load
  refine MonoR.step (Pv.eq (.int .u64 q)) [] (by kernel_rfl) (fun w' hw' => ?_) ?_
  · refine ask_do rfl fun K hK => ?_
    obtain ⟨q0, q1⟩ := HLD.out w' hw'
    go_simp
    exact hK _ _ rfl rfl (World.grownBy.refl _ none)
  -- op 4 (slot 9): call
  refine MonoR.step (Pv.eq (.int .u64 (evalI q (c.map (·.1)) x))) [(1, 6), (2, 7), (3, 8)] (by kernel_rfl) (fun w' hw' => ?_) ?_
  · intro x6 h6
    have h6 : Sl encU TT w' x6 (c.map (·.1)) := h6
    rintro _ rfl
    rintro _ rfl
    refine ask_do rfl fun K hK => ?_
    go_simp
    refine (eval_any x6 (c.map (·.1)) x q TT w' h6 HU.out).mono ?_
    rintro e w3 ⟨rfl, hg3⟩
    exact hK _ _ rfl rfl hg3
  -- op 5 (slot 10): move
  refine MonoR.step (Pv.eq (.slice A c.length cc)) [] (by kernel_rfl) (fun w' hw' => ?_) ?_
  · refine ask_do rfl fun K hK => ?_
    go_simp
    exact hK _ _ rfl rfl (World.grownBy.refl _ none)
  -- op 6 (slot 11): call
  refine MonoR.step (Pv.sl encU TT (c.map (·.2))) [(5, 10)] (by kernel_rfl) (fun w' hw' => ?_) ?_
  · rintro _ rfl
    refine ask_do rfl fun K hK => ?_
    go_simp
    refine (HEB.out w' hw').mono ?_
    rintro e w3 ⟨v3, rfl, hs3, hg3⟩
    exact hK _ _ rfl (hs3.more fun _ _ _ => trivial) hg3
  -- op 7 (slot 12): load
  refine MonoR.step (Pv.eq (.int .u64 x)) [] (by kernel_rfl) (fun w' hw' => ?_) ?_
  · refine ask_do rfl fun K hK => ?_
    obtain ⟨q0, q1⟩ := HLD.out w' hw'
    go_simp
    exact hK _ _ rfl rfl (World.grownBy.refl _ none)
  -- op 8 (slot 13): load
  refine MonoR.step (Pv.eq (.int .u64 q)) [] (by kernel_rfl) (fun w' hw' => ?_) ?_
  · refine ask_do rfl fun K hK => ?_
    obtain ⟨q0, q1⟩ := HLD.out w' hw'
    go_simp
    exact hK _ _ rfl rfl (World.grownBy.refl _ none)
  -- op 9 (slot 14): call
  refine MonoR.step (Pv.eq (.int .u64 (evalI q (c.map (·.2)) x))) [(6, 11), (7, 12), (8, 13)] (by kernel_rfl) (fun w' hw' => ?_) ?_
  · intro x11 h11
    have h11 : Sl encU TT w' x11 (c.map (·.2)) := h11
    rintro _ rfl
    rintro _ rfl
    refine ask_do rfl fun K hK => ?_
    go_simp
    refine (eval_any x11 (c.map (·.2)) x q TT w' h11 HU.out).mono ?_
    rintro e w3 ⟨rfl, hg3⟩
    exact hK _ _ rfl rfl hg3
  -- op 10 (slot 15): build
  refine MonoR.step (Pv.eq (.agg #[.int .u64 (evalI q (c.map (·.1)) x), .int .u64 (evalI q (c.map (·.2)) x)])) [(4, 9), (9, 14)] (by kernel_rfl) (fun w' hw' => ?_) ?_
  · rintro _ rfl
    rintro _ rfl
    refine ask_do rfl fun K hK => ?_
    go_simp
    exact hK _ _ rfl rfl (World.grownBy.refl _ none)
  

  intro w3 hw3
  intro y0 k0 y1 k1 y2 k2 y3 k3 y4 k4 y5 k5 y6 k6 y7 k7 y8 k8 y9 k9 y10 k10
  show wpList Try.prog _ _ _ _ w3
  simp only [Act.put, List.setIfInBounds_toArray, List.set_cons_zero, List.set_cons_succ]
  have e10 : y10 = .agg #[.int .u64 (evalI q (c.map (·.1)) x), .int .u64 (evalI q (c.map (·.2)) x)] := k10
  subst e10
  have hb3 : Bk w3 B0 44 #[.int .u64 0, .int .u64 0] := HBR.out.grown (HD.out.trans hw3) (by simp)
  have d0 := hb3.cell 0
  have d1 := hb3.cell 1
  have f3 := hb3.free
  simp at d0 d1
  have HR : Hid (Bk ((w3.setCell ⟨B0, 0, none⟩ (.int .u64 (evalI q (c.map (·.1)) x))).setCell ⟨B0, 1, none⟩ (.int .u64 (evalI q (c.map (·.2)) x))) B0 44 #[.int .u64 (evalI q (c.map (·.1)) x), .int .u64 (evalI q (c.map (·.2)) x)]) := Lib.hid ((hb3.set 0 _).set 1 _)
  have HGF : Hid (w.grownBy ((w3.setCell ⟨B0, 0, none⟩ (.int .u64 (evalI q (c.map (·.1)) x))).setCell ⟨B0, 1, none⟩ (.int .u64 (evalI q (c.map (·.2)) x))) none) := Lib.hid (grownSetUp (grownSetUp (HG0.out.trans (HD.out.trans hw3)) 0 _ HBE.out) 1 _ HBE.out)
  clear hw3 hb3 k0 k1 k2 k3 k4 k5 k6 k7 k8 k9 k10 HLD HEV HEB
  go_wp2_with fail
  exact ⟨rfl, _, results_pair rfl _ rfl HR.out, rfl, HGF.out⟩
set_option maxRecDepth 100000 in
set_option maxHeartbeats 2000000 in
theorem eachAt_any (v : Value) (L : List (List (Int × Int))) (x q : Int) (Bx Bq : Nat) (X : Nat → Prop) (w : World) (h : Sl (encS encP) X w v L) (hx : U64 x) (hb : L.length ≤ 1000) (hb2 : ∀ c ∈ L, c.length ≤ 1000) (bx : Bk w Bx 22 #[.int .u64 x]) (bq : Bk w Bq 22 #[.int .u64 q]) :
    Calls Try.prog 22 #[v, .func (.func 23) #[] #[.pointer (some ⟨Bx, 0, none⟩), .pointer (some ⟨Bq, 0, none⟩)]] w (Gives encP (fun g => w.heap.size ≤ g) w (L.map (atP q x))) := by
  have H := Lib.hid h
  have HB := Lib.hid hb
  have HB2 := Lib.hid hb2
  have HU := Lib.hid hx
  have HBX := Lib.hid bx
  have HBQ := Lib.hid bq
  obtain ⟨A, c, rfl, hc1, hc2⟩ := h.form
  clear h hb hb2 hx bx bq
  go_enter Try.func22, Try.ntmps22
  go_wp2_with fail
  go_loopg [5, 10] L.length (fun g s5 s10 wx => ∃ j : Nat, j + g = L.length ∧ s10 = .int .i64 j ∧ Hid (Acc encP w.heap.size 44 (fun g => w.heap.size ≤ g) wx s5 ((L.take j).map (atP q x)) ∧ w.grownBy wx none))
  case atStart => exact ⟨0, by omega, rfl, Lib.hid ⟨Acc.nil _ _ _ _ _, World.grownBy.refl _ none⟩⟩
  case round =>
    obtain ⟨j, hj, rfl, HX⟩ := hrel
    cases gk with
    | zero =>
      obtain rfl : j = L.length := by omega
      have HR : Hid (Sl encP (fun g => w.heap.size ≤ g) wr u5 (L.map (atP q x)) ∧ w.grownBy wr none) := Lib.hid ⟨by have := HX.out.1.sl; rwa [List.take_length] at this, HX.out.2⟩
      clear HX
      go_wp2
      go_ret
      exact ⟨_, rfl, HR.out.1, HR.out.2⟩
    | succ m =>
      have hjn : (j : Int) < (L.length : Int) := by omega
      have hjN : j < L.length := by omega
      obtain ⟨hacc, hg⟩ := HX.out
      obtain ⟨g, o, c', u, e, _, _, hcu, hu⟩ := (H.out.kept hg).atS hjN
      injection e with e1 e2 e3
      subst e1 e3
      have HSN : Hid ((L.take (j + 1)).map (atP q x) = (L.take j).map (atP q x) ++ [atP q x L[j]]) := Lib.hid (by rw [List.take_succ_eq_append_getElem hjN, List.map_append]; rfl)
      have HC := Lib.hid (atOne_any u L[j] x q Bx Bq _ wr hu HU.out (HB2.out _ (List.getElem_mem hjN)) (HBX.out.grown hg (by simp)) (HBQ.out.grown hg (by simp)))
      have HAC := Lib.hid hacc
      have HG := Lib.hid hg
      have HLB : Hid ((((L.take j).map (atP q x)).length + 1) * 16 ≤ 140737488355328) := Lib.hid (by have := HB.out; simp; omega)
      have HU2 : Hid (U64 (atP q x L[j]).1 ∧ U64 (atP q x L[j]).2) := Lib.hid ⟨evalI_U64 _ _ _, evalI_U64 _ _ _⟩
      obtain ⟨A1, n1, c1, e1⟩ := hu.shape
      subst e1
      obtain ⟨y, hy⟩ : ∃ y, y = atP q x L[j] := ⟨_, rfl⟩
      rw [← hy] at HSN HC HU2
      obtain ⟨ya, yb⟩ := y
      clear hacc hg HX hu e2 hy
      generalize hLn : L.length = n at *
      clear hLn
      go_wp2_with fail
      refine HC.out.mono ?_
      rintro e w1 ⟨rfl, hg1⟩
      have HG1 : Hid (w.grownBy w1 none) := Lib.hid (HG.out.trans hg1)
      have HAC1 := Lib.hid (HAC.out.kept hg1)
      clear hg1 hcu
      go_wp2_with (at_builtin; refine wpList_pushG rfl (.tmp 14) (.tmp 18) rfl (E := encP) (y := (ya, yb)) el_pair HG1.out HAC1.out (fun _ h => h) ⟨rfl, HU2.out.1, HU2.out.2⟩ HLB.out rfl rfl ?_)
      intro v2 w2 hacc2 hg2 hgo
      have HFIN : Hid (Acc encP w.heap.size 44 (fun g => w.heap.size ≤ g) w2 v2 ((L.take (j + 1)).map (atP q x)) ∧ w.grownBy w2 none) := Lib.hid ⟨by rw [HSN.out]; simpa using hacc2, hg2⟩
      clear hacc2 hg2 hgo
      go_wp2_with fail
      go_roundg m
      case measure => omega
      case rel => exact ⟨j + 1, by omega, by go_num, HFIN⟩
theorem dat_any (v : Value) (L : List (List (Int × Int))) (x q : Int) (X : Nat → Prop) (w : World) (h : Sl (encS encP) X w v L) (hx : U64 x) (hb : L.length ≤ 1000) (hb2 : ∀ c ∈ L, c.length ≤ 1000) :
    Calls Try.prog 5 #[v, .int .u64 x, .int .u64 q] w (Gives encP (fun g => w.heap.size ≤ g) w (L.map (atP q x))) := by
  obtain ⟨w0, hw0⟩ : ∃ y, y = (w.alloc (Obj.cells #[.int .u64 x] 22)).alloc (Obj.cells #[.int .u64 q] 22) := ⟨_, rfl⟩
  have HG0 : Hid (w.grownBy w0 none) := Lib.hid (by rw [hw0]; exact grown_two)
  have HB1 : Hid (Bk w0 w.heap.size 22 #[.int .u64 x]) := Lib.hid (by rw [hw0]; exact (Bk.new w _ _).alloc _)
  have HB2 : Hid (Bk w0 (w.heap.size + 1) 22 #[.int .u64 q]) := Lib.hid (by
    rw [hw0]
    have h := Bk.new (w.alloc (Obj.cells #[.int .u64 x] 22)) 22 #[.int .u64 q]
    rw [World.size_alloc] at h
    exact h)
  have HC := Lib.hid (eachAt_any v L x q w.heap.size (w.heap.size + 1) X w0 (h.kept HG0.out) hx hb hb2 HB1.out HB2.out)
  obtain ⟨A, c, rfl, _, _⟩ := h.form
  clear h
  go_enter Try.func5, Try.ntmps5
  go_wp2_with fail
  rw [← hw0]
  clear hw0
  refine HC.out.mono ?_
  rintro e w1 ⟨v1, rfl, hs1, hg1⟩
  have HR : Hid (Sl encP (fun g => w.heap.size ≤ g) w1 v1 (L.map (atP q x)) ∧ w.grownBy w1 none) := Lib.hid ⟨hs1.more fun g _ h => Nat.le_trans HG0.out.size h, HG0.out.trans hg1⟩
  clear hs1 hg1
  go_wp2
  go_ret
  exact ⟨_, rfl, HR.out.1, HR.out.2⟩
end Go.Proofs.Ytphbcfpiklmmeaa

namespace Go.Proofs.Ytphbcfpiklmmeaa
open Go.RowKit

theorem turnedI_length (p : Par) (l : List (List Int)) : (turnedI p l).length = wideI l := by simp [turnedI]
theorem shareI_length (p : Par) (l : List (List Int)) (x : Int) : (shareI p l x).length = l.length := by simp [shareI]
set_option maxRecDepth 100000 in
set_option maxHeartbeats 1000000 in
theorem rowComs_any (p : Par) (v : Value) (m : List (List (List Int))) (x : Int) (X : Nat → Prop) (w : World) (h : Sl (encS (encS encU)) X w v m) (hx : U64 x) (hb : m.length ≤ 100000) (hb2 : ∀ l ∈ m, l.length ≤ 100000 ∧ ∀ c ∈ l, c.length ≤ 100000) :
    Calls Try.prog 31 #[p.v, v, .int .u64 x] w (Gives (encS encU) (fun g => w.heap.size ≤ g) w (rowComsI p m x)) := by
  have H := Lib.hid h
  have HI := Lib.hid hx
  have HB2 := Lib.hid hb2
  obtain ⟨A, c, rfl, hc1, hc2⟩ := h.form
  have HST : Hid (Acc (encS encU) w.heap.size 35 (fun g => w.heap.size ≤ g) (w.alloc (Obj.cells p.cells 24)) (.slice none 0 0) ((m.take 0).map fun l => shareI p (turnedI p l) x) ∧ w.grownBy (w.alloc (Obj.cells p.cells 24)) none ∧ Bk (w.alloc (Obj.cells p.cells 24)) w.heap.size 24 p.cells) := Lib.hid ⟨Acc.nil _ _ _ _ _, World.grownBy_alloc w _ none, Bk.new w _ _⟩
  clear h hx hb2
  go_enter Try.func31, Try.ntmps31
  go_wp2_with fail
  go_loopg [7, 12] m.length (fun g s7 s12 wx => ∃ j : Nat, j + g = m.length ∧ s12 = .int .i64 j ∧ Hid (Acc (encS encU) w.heap.size 35 (fun g => w.heap.size ≤ g) wx s7 ((m.take j).map fun l => shareI p (turnedI p l) x) ∧ w.grownBy wx none ∧ Bk wx w.heap.size 24 p.cells))
  case atStart => exact ⟨0, by omega, rfl, HST⟩
  case round =>
    obtain ⟨j, hj, rfl, HX⟩ := hrel
    cases gk with
    | zero =>
      obtain rfl : j = m.length := by omega
      have HR : Hid (Sl (encS encU) (fun g => w.heap.size ≤ g) wr u7 (rowComsI p m x) ∧ w.grownBy wr none) := Lib.hid ⟨by have := HX.out.1.sl; rwa [List.take_length] at this, HX.out.2.1⟩
      clear HX HST
      go_wp2
      go_ret
      exact ⟨_, rfl, HR.out.1, HR.out.2⟩
    | succ n =>
      have hjn : (j : Int) < (m.length : Int) := by omega
      have hjN : j < m.length := by omega
      obtain ⟨hacc, hg, hbp⟩ := HX.out
      obtain ⟨g, o, c', u, e, _, _, hcu, hsu⟩ := (H.out.kept hg).atS hjN
      injection e with e1 e2 e3
      subst e1 e3
      obtain ⟨A1, c1, e1, _, _⟩ := hsu.form
      subst e1
      have HSN := Lib.hid (map_take_snoc' (fun l => shareI p (turnedI p l) x) m j hjN)
      obtain ⟨hz1, hz2⟩ := HB2.out m[j] (List.getElem_mem hjN)
      have HT := Lib.hid (fun (w' : World) (hw : wr.grownBy w' none) => turned_any p _ m[j] X w' (hsu.kept hw) hz1 hz2)
      have HWD := Lib.hid (wide_le m[j] 100000 hz2)
      have HF := Lib.hid (fun (v : Value) (Y : Nat → Prop) (w' : World) (hv : Sl (encS encU) Y w' v (turnedI p m[j])) => share_any p v _ x Y w' hv HI.out (by rw [turnedI_length]; exact HWD.out))
      have HSL : Hid ((shareI p (turnedI p m[j]) x).length = wideI m[j]) := Lib.hid (by rw [shareI_length, turnedI_length])
      have HAC : Hid (Acc (encS encU) w.heap.size 35 (fun g => w.heap.size ≤ g) wr.drew u7 ((m.take j).map fun l => shareI p (turnedI p l) x)) := Lib.hid (hacc.kept (grownBy_drewN (World.grownBy.refl wr none) 1))
      have HG : Hid (w.grownBy wr.drew none) := Lib.hid (grownBy_drewN hg 1)
      have HGd : Hid (wr.grownBy wr.drew none) := Lib.hid (grownBy_drewN (World.grownBy.refl wr none) 1)
      have HBp : Hid (Bk wr.drew w.heap.size 24 p.cells) := Lib.hid (hbp.drewN 1)
      have hp := hbp.prule
      have hlt := hbp.lt
      have HLB : Hid ((((m.take j).map fun l => shareI p (turnedI p l) x).length + 1) * 24 ≤ 140737488355328) := Lib.hid (by simp; omega)
      clear hacc hg hbp hsu e2 HX HST hz1 hz2
      generalize hy : m[j] = z at HSN HF hcu HSL HT HWD
      clear hy
      generalize z.length = n1 at *
      go_wp2_with fail
      go_region_held3 (fun w' => ∀ o, w'.cell? ⟨w.heap.size, o, none⟩ = (#[.int .u64 p.P, .int .u64 p.Q, .int .u64 p.G, .int .u64 p.H, .int .i64 p.Nodes, .int .i64 p.N, .int .i64 p.T, .int .i64 p.K, .int .i64 p.D, .int .i64 p.R, .int .i64 p.M, .int .i64 p.X] : Array Value)[o]?) (first | assumption | exact rule_alloc (by assumption) (by assumption) _ | go_keep) (first
        | (go_at_call 50; (with_reducible refine (HT.out _ HGd.out).mono ?_); rintro e' w1 ⟨v1, rfl, hs1, hg1⟩; have HV1 := Lib.hid hs1; have HG1 := Lib.hid (HG.out.trans hg1); have HA1 := Lib.hid (HAC.out.kept hg1); have HB1 := Lib.hid (HBp.out.grown hg1 (by simp)); have hp1 := HB1.out.prule; have hl1 := HB1.out.lt; clear hs1 hg1)
        | (go_at_call 49; (with_reducible refine (HF.out _ _ _ HV1.out).mono ?_); rintro e' w2 ⟨v2, rfl, hs2, hg2⟩; obtain ⟨A2, c2, e2, _, _⟩ := hs2.form; rw [HSL.out] at e2; subst e2; have HG2 := Lib.hid (HG1.out.trans hg2); have HA2 := Lib.hid (HA1.out.kept hg2); have HB2 := Lib.hid (HB1.out.grown hg2 (by simp)); have hp2 := HB2.out.prule; have hl2 := HB2.out.lt; have HREP : Hid (Enc.rep (encS encU) (fun g => w.heap.size ≤ g ∧ some g ≠ u7.ownBlock) w2 [.slice A2 (wideI z) c2] (shareI p (turnedI p z) x)) := Lib.hid ⟨_, rfl, hs2.fresh HG1.out HA1.out⟩; clear hs2 hg2)
        | (refine step_pushG rfl (.tmp 16) (.tmp 23) rfl (E := encS encU) (y := shareI p (turnedI p z) x) el_nums HG2.out HA2.out (fun _ h => h) HREP.out HLB.out rfl rfl ?_; intro v3 w3 hacc3 hg3 hgo3; have HA3 := Lib.hid hacc3; have HG3 := Lib.hid hg3; have HB3 := Lib.hid (HB2.out.grown hgo3 (fun e => HA2.out.ne_bk HB2.out (by decide) e.symm)); have hp3 := HB3.out.prule; clear hacc3 hg3 hgo3))
      have HFIN : Hid (Acc (encS encU) w.heap.size 35 (fun g => w.heap.size ≤ g) w3 v3 ((m.take (j + 1)).map fun l => shareI p (turnedI p l) x) ∧ w.grownBy w3 none ∧ Bk w3 w.heap.size 24 p.cells) := Lib.hid ⟨by rw [HSN.out]; simpa using HA3.out, HG3.out, HB3.out⟩
      clear HA3 HG3 HB3
      go_wp2_with fail
      go_roundg n
      case measure => omega
      case rel => exact ⟨j + 1, by omega, by go_num, HFIN⟩
set_option maxRecDepth 100000 in
set_option maxHeartbeats 400000 in
theorem sequal_any (v1 v2 : Value) (xs ys : List Int) (X Y : Nat → Prop) (w : World) (h1 : Sl encU X w v1 xs) (h2 : Sl encU Y w v2 ys) :
    Calls Try.prog 55 #[v1, v2] w fun e w' => e = .returned (.bool (decide (xs = ys))) ∧ w.grownBy w' none := by
  have H1 := Lib.hid h1
  have H2 := Lib.hid h2
  obtain ⟨A1, c1, rfl, hc1, hc2⟩ := h1.form
  obtain ⟨A2, c2, rfl, hc3, hc4⟩ := h2.form
  clear h1 h2
  by_cases hl : xs.length = ys.length
  · have HLN := Lib.hid hl
    have HST : Hid ((∃ n, w = w.drewN n) ∧ xs.take 0 = ys.take 0) := Lib.hid ⟨⟨0, rfl⟩, rfl⟩
    rw [hl] at H1 hc1 ⊢
    clear hl
    go_enter Try.func55, Try.ntmps55
    go_wp2_with fail
    go_loopg [13] ys.length (fun g s13 wx => ∃ j : Nat, j + g = ys.length ∧ s13 = .int .i64 j ∧ Hid ((∃ n, wx = w.drewN n) ∧ xs.take j = ys.take j))
    case atStart => exact ⟨0, by omega, rfl, HST⟩
    case round =>
      obtain ⟨j, hj, rfl, HX⟩ := hrel
      obtain ⟨⟨n0, rfl⟩, htk⟩ := HX.out
      cases gk with
      | zero =>
        obtain rfl : j = ys.length := by omega
        have HE : Hid (decide (xs = ys) = true) := Lib.hid (by
          rw [List.take_length, ← HLN.out, List.take_length] at htk
          simpa using htk)
        clear HX HST htk
        go_wp2
        go_ret
        exact ⟨ret_bool HE.out.symm, grown_drewN' w _⟩
      | succ m =>
        have hjn : (j : Int) < (ys.length : Int) := by omega
        have hj0 : (0 : Int) ≤ (j : Int) := by omega
        have hjN : j < ys.length := by omega
        have hjX : j < xs.length := by rw [HLN.out]; exact hjN
        obtain ⟨g1, o1, c1', e1, _, _, a1, u1⟩ := (HLN.out ▸ H1.out : Sl encU X w (.slice A1 xs.length c1) xs).atU hjX
        injection e1 with e11 e12 e13
        subst e11 e13
        obtain ⟨g2, o2, c2', e2, _, _, a2, _⟩ := H2.out.atU hjN
        injection e2 with e21 e22 e23
        subst e21 e23
        have HSX := Lib.hid (List.take_succ_eq_append_getElem hjX)
        have HSY := Lib.hid (List.take_succ_eq_append_getElem hjN)
        have HTK := Lib.hid htk
        by_cases hxy : xs[j] = ys[j]
        · have HNX : Hid (xs.take (j + 1) = ys.take (j + 1)) := Lib.hid (by rw [HSX.out, HSY.out, hxy, HTK.out])
          rw [hxy] at a1
          clear HX HST e12 e22 htk hxy HSX HSY
          generalize ys[j] = y at *
          go_wp2_with fail
          go_quiet (fail)
          go_wp2_with fail
          go_roundg m
          case measure => omega
          case rel => exact ⟨j + 1, by omega, by go_num, Lib.hid ⟨⟨_, rfl⟩, HNX.out⟩⟩
        · have HE : Hid (decide (xs = ys) = false) := Lib.hid (by simp only [decide_eq_false_iff_not]; intro e; apply hxy; subst e; rfl)
          have hd : (xs[j] != ys[j]) = true := by simpa using hxy
          clear HX HST e12 e22 htk hxy HSX HSY
          generalize ys[j] = y at *
          generalize xs[j] = x at *
          go_wp2_with fail
          go_quiet (fail)
          go_wp2
          go_ret
          exact ⟨ret_bool HE.out.symm, (grown_drewN' w _).trans (grown_drewN' _ _)⟩
  · have hd : ((xs.length : Int) != (ys.length : Int)) = true := by simp; omega
    have HE : Hid (decide (xs = ys) = false) := Lib.hid (by simp only [decide_eq_false_iff_not]; intro e; exact hl (by rw [e]))
    clear hl
    go_enter Try.func55, Try.ntmps55
    go_wp2
    go_ret
    exact ⟨ret_bool HE.out.symm, World.grownBy.refl w none⟩
theorem commit_U64' (p : Par) (x : Int × Int) : U64 (commitI p x) := timesI_U64 _ _
def fitsI (p : Par) (coms : List (List Int)) (i : Int) (l : List (Int × Int)) : Bool := decide (l.map (commitI p) = shareI p coms i)
set_option maxRecDepth 100000 in
set_option maxHeartbeats 1000000 in
theorem fits_any (p : Par) (v1 : Value) (coms : List (List Int)) (i : Int) (v2 : Value) (l : List (Int × Int)) (X Y : Nat → Prop) (w : World) (hp : p.ok) (h1 : Sl (encS encU) X w v1 coms) (hi : U64 i) (h2 : Sl encP Y w v2 l) (hb : coms.length ≤ 100000) (hb2 : l.length ≤ 100000) :
    Calls Try.prog 37 #[p.v, v1, .int .u64 i, v2] w fun e w' => e = .returned (.bool (fitsI p coms i l)) ∧ w.grownBy w' none := by
  have HP := Lib.hid hp
  have HSH := Lib.hid (fun (w' : World) (hw : w.grownBy w' none) => share_any p v1 coms i X w' (h1.kept hw) hi hb)
  have H := Lib.hid h2
  obtain ⟨A, c, rfl, hc1, hc2⟩ := h2.form
  have HST : Hid (Acc encU w.heap.size 22 (fun g => w.heap.size ≤ g) (w.alloc (Obj.cells p.cells 24)) (.slice none 0 0) ((l.take 0).map (commitI p)) ∧ w.grownBy (w.alloc (Obj.cells p.cells 24)) none ∧ Bk (w.alloc (Obj.cells p.cells 24)) w.heap.size 24 p.cells) := Lib.hid ⟨Acc.nil _ _ _ _ _, World.grownBy_alloc w _ none, Bk.new w _ _⟩
  clear h1 h2 hi hp hb
  go_enter Try.func37, Try.ntmps37
  go_wp2_with fail
  go_loopg [9, 14] l.length (fun g s9 s14 wx => ∃ j : Nat, j + g = l.length ∧ s14 = .int .i64 j ∧ Hid (Acc encU w.heap.size 22 (fun g => w.heap.size ≤ g) wx s9 ((l.take j).map (commitI p)) ∧ w.grownBy wx none ∧ Bk wx w.heap.size 24 p.cells))
  case atStart => exact ⟨0, by omega, rfl, HST⟩
  case round =>
    obtain ⟨j, hj, rfl, HX⟩ := hrel
    cases gk with
    | zero =>
      obtain rfl : j = l.length := by omega
      have HS9 : Hid (Sl encU (fun g => w.heap.size ≤ g) wr u9 (l.map (commitI p))) := Lib.hid (by have := HX.out.1.sl; rwa [List.take_length] at this)
      have HG := Lib.hid HX.out.2.1
      have hp := HX.out.2.2.prule
      clear HX HST
      go_wp2_with fail
      refine (HSH.out _ HG.out).mono ?_
      rintro e' w1 ⟨u1, rfl, hs1, hg1⟩
      have HEQ := Lib.hid (sequal_any u9 u1 _ _ _ _ w1 (HS9.out.kept hg1) hs1)
      have HG1 := Lib.hid (HG.out.trans hg1)
      clear hs1 hg1 hp
      go_wp2_with fail
      refine HEQ.out.mono ?_
      rintro e' w2 ⟨rfl, hg2⟩
      have HG2 := Lib.hid (HG1.out.trans hg2)
      clear hg2
      go_wp2
      go_ret
      exact ⟨rfl, HG2.out⟩
    | succ m =>
      have hjn : (j : Int) < (l.length : Int) := by omega
      have hjN : j < l.length := by omega
      obtain ⟨hacc, hg, hbp⟩ := HX.out
      obtain ⟨g, o, c', e, hgl, _, hcu1, hcu2, hu1, hu2⟩ := (H.out.kept hg).atP hjN
      injection e with e1 e2 e3
      subst e1 e3
      have HSN := Lib.hid (map_take_snoc' (commitI p) l j hjN)
      have HU := Lib.hid (commit_U64' p l[j])
      have HF := Lib.hid (fun (w' : World) => commit_any p l[j] w' HP.out hu1 hu2)
      generalize hy : l[j] = y at HSN HU HF hcu1 hcu2 hu1 hu2
      clear hy
      have HG1 : Hid (wr.grownBy (wr.alloc (Obj.cells #[.int .u64 y.1, .int .u64 y.2] 44)) none) := Lib.hid (World.grownBy_alloc wr _ none)
      have HAC := Lib.hid (hacc.kept HG1.out)
      have HG := Lib.hid (hg.trans HG1.out)
      have HBp := Lib.hid (hbp.grown HG1.out (by simp))
      have hp := hbp.prule
      have hlp := hbp.lt
      have HLB : Hid ((((l.take j).map (commitI p)).length + 1) * 8 ≤ 140737488355328) := Lib.hid (by simp; omega)
      clear hacc hg hbp e2 HX HST hu1 hu2
      go_wp2_with fail
      refine (HF.out _).mono ?_
      rintro e' w1 ⟨rfl, hg1⟩
      have HG2 := Lib.hid (HG.out.trans hg1)
      have HA1 := Lib.hid (HAC.out.kept hg1)
      have HBp1 := Lib.hid (HBp.out.grown hg1 (by simp))
      clear hg1 hp
      go_wp2_with (at_builtin; refine wpList_pushG rfl (.tmp 18) (.tmp 22) rfl (E := encU) el_u64 HG2.out HA1.out (fun _ h => h) ⟨rfl, HU.out⟩ HLB.out rfl rfl ?_)
      intro v2 w2 hacc2 hg2 hgo
      have HFIN : Hid (Acc encU w.heap.size 22 (fun g => w.heap.size ≤ g) w2 v2 ((l.take (j + 1)).map (commitI p)) ∧ w.grownBy w2 none ∧ Bk w2 w.heap.size 24 p.cells) := Lib.hid ⟨by rw [HSN.out]; simpa using hacc2, hg2, HBp1.out.grown hgo (fun e => HA1.out.ne_bk HBp1.out (by decide) e.symm)⟩
      clear hacc2 hg2 hgo
      go_wp2_with fail
      go_roundg m
      case measure => omega
      case rel => exact ⟨j + 1, by omega, by go_num, HFIN⟩
end Go.Proofs.Ytphbcfpiklmmeaa

namespace Go.Proofs.Ytphbcfpiklmmeaa
open Go Go.RowKit Go.Shelf

set_option maxHeartbeats 1000000 in
theorem rvalueB_any (v : Value) (l : List Int) (x q : Int) (X : Nat → Prop) (w : World) (h : Sl encU X w v l) (hx : U64 x) (hq : U64 q) :
    Calls Try.prog 28 #[v, .int .u64 x, .int .u64 q] w fun e w' => e = .returned (.int .u64 (evalI q l x)) ∧ w.grownBy w' none := by
  have H := Lib.hid h
  have HX := Lib.hid hx
  have HQ := Lib.hid hq
  have HV := Lib.hid (valR_eval q x l)
  have H1 : Hid (U64 1) := Lib.hid ⟨by decide, by decide⟩
  obtain ⟨A, c, rfl, hc1, hc2⟩ := h.form
  obtain ⟨n, hn⟩ : ∃ n, n = l.length := ⟨_, rfl⟩
  have HN := Lib.hid hn
  rw [← hn] at hc1 ⊢
  clear h hx hq hn
  go_enter Try.func28, Try.ntmps28
  go_wp2_with fail
  refine (refmul_any 1 1 q _ H1.out H1.out HQ.out).mono ?_
  rintro e w1 ⟨rfl, n1, rfl⟩
  have HS : Hid (U64 0 ∧ U64 (mulI 1 1 q) ∧ w.grownBy (w.drewN n1) none ∧ valR q x (l.drop 0) 0 (mulI 1 1 q) = evalI q l x) := Lib.hid ⟨⟨by decide, by decide⟩, mulI_U64 _ _ _, grown_drewN' w n1, HV.out⟩
  go_wp2_with fail
  go_loopg [7, 8, 9] n (fun g s7 s8 s9 wx => ∃ (j : Nat) (s e : Int), j + g = n ∧ s9 = .int .i64 j ∧ s7 = .int .u64 s ∧ s8 = .int .u64 e ∧ Hid (U64 s ∧ U64 e ∧ w.grownBy wx none ∧ valR q x (l.drop j) s e = evalI q l x))
  case atStart => exact ⟨0, _, _, by omega, rfl, rfl, rfl, HS⟩
  case round =>
    obtain ⟨j, s, e, hj, rfl, rfl, rfl, HR⟩ := hrel
    cases gk with
    | zero =>
      obtain rfl : j = n := by omega
      have HE : Hid (s = evalI q l x) := Lib.hid (by have := HR.out.2.2.2; rwa [HN.out, List.drop_length] at this)
      have HG := Lib.hid HR.out.2.2.1
      clear HR HS
      go_wp2
      go_ret
      exact ⟨ret_u64 HE.out, HG.out⟩
    | succ m =>
      have hjn : (j : Int) < (n : Int) := by omega
      have hjN : j < l.length := by rw [← HN.out]; omega
      obtain ⟨g, of, c', e', _, _, hcu, hu⟩ := (H.out.kept HR.out.2.2.1).atU hjN
      injection e' with e1 e2 e3
      subst e1 e3
      have HSU := Lib.hid HR.out.1
      have HEU := Lib.hid HR.out.2.1
      have HG := Lib.hid HR.out.2.2.1
      have HY := Lib.hid hu
      have HST : Hid (valR q x (l.drop (j + 1)) (addI s (mulI l[j] e q) q) (mulI e x q) = evalI q l x) := Lib.hid (by
        have h := HR.out.2.2.2
        rw [List.drop_eq_getElem_cons hjN] at h
        exact h)
      clear hu HR HS e2
      obtain ⟨y, hy⟩ : ∃ y, y = l[j] := ⟨_, rfl⟩
      rw [← hy] at hcu HY HST
      clear hy
      go_wp2_with fail
      refine (refmul_any y e q _ HY.out HEU.out HQ.out).mono ?_
      rintro e1 w2 ⟨rfl, n2, rfl⟩
      go_wp2_with fail
      refine (refadd_any s (mulI y e q) q _ HSU.out (mulI_U64 _ _ _) HQ.out).mono ?_
      rintro e2 w3 ⟨rfl, n3, rfl⟩
      go_wp2_with fail
      refine (refmul_any e x q _ HEU.out HX.out HQ.out).mono ?_
      rintro e4 w4 ⟨rfl, n4, rfl⟩
      have HFIN : Hid (U64 (addI s (mulI y e q) q) ∧ U64 (mulI e x q) ∧ w.grownBy (wr.drewN (n2 + n3 + n4)) none ∧ valR q x (l.drop (j + 1)) (addI s (mulI y e q) q) (mulI e x q) = evalI q l x) := Lib.hid ⟨addI_U64 _ _ _, mulI_U64 _ _ _, grownBy_drewN HG.out _, HST.out⟩
      go_wp2
      go_roundg m
      case measure => omega
      case rel => exact ⟨j + 1, _, _, by omega, by go_num, rfl, rfl, HFIN⟩
/-- A list made since N; a slice of one such list, just built. -/
def slF {α : Type} (E : Enc α) (N : Nat) (y : List α) : Pv := ⟨fun v W => Sl E (fun g => N ≤ g) W v y, fun h hg => h.kept hg⟩
def blkF {α : Type} (E : Enc α) (t : TypeId) (N : Nat) (y : List α) : Pv := ⟨fun v W => ∃ A n c b, v = .slice (some ⟨b, 0, none⟩) 1 1 ∧ Bk W b t #[.slice A n c] ∧ Sl E (fun g => N ≤ g) W (.slice A n c) y, fun ⟨A, n, c, b, e, h1, h2⟩ hg => ⟨A, n, c, b, e, h1.grown hg (by simp), h2.kept hg⟩⟩
theorem blkF_out {α : Type} {E : Enc α} {t : TypeId} {N : Nat} {y : List α} {v : Value} {W : World} (h : (blkF E t N y).p v W) : ∃ A n c b, v = .slice (some ⟨b, 0, none⟩) 1 1 ∧ Bk W b t #[.slice A n c] ∧ Sl E (fun g => N ≤ g) W (.slice A n c) y := h
end Go.Proofs.Ytphbcfpiklmmeaa

namespace Go.Proofs.Ytphbcfpiklmmeaa
open Go Go.RowKit Go.Shelf

theorem half0_snoc (l : List (Int × Int)) (j : Nat) (h : j < l.length) : (l.take (j + 1)).map (·.1) = (l.take j).map (·.1) ++ [l[j].1] := map_take_snoc' (fun x : Int × Int => x.1) l j h
set_option maxRecDepth 100000 in
set_option maxHeartbeats 1000000 in
theorem rhalf0_any (v : Value) (l : List (Int × Int)) (X : Nat → Prop) (w : World) (h : Sl encP X w v l) (hb : l.length ≤ 100000) :
    Calls Try.prog 29 #[v, .bool false] w (Gives encU (fun g => w.heap.size ≤ g) w (l.map (·.1))) := by
  have H := Lib.hid h
  obtain ⟨A, c, rfl, hc1, hc2⟩ := h.form
  clear h
  go_enter Try.func29, Try.ntmps29
  go_wp2_with fail
  go_loopg [5, 6] l.length (fun g s5 s6 wx => ∃ j : Nat, j + g = l.length ∧ s6 = .int .i64 j ∧ Hid (Acc encU w.heap.size 22 (fun g => w.heap.size ≤ g) wx s5 ((l.take j).map (·.1)) ∧ w.grownBy wx none))
  case atStart => exact ⟨0, by omega, rfl, Lib.hid ⟨Acc.nil _ _ _ _ _, World.grownBy.refl _ _⟩⟩
  case round =>
    obtain ⟨j, hj, rfl, HX⟩ := hrel
    cases gk with
    | zero =>
      obtain rfl : j = l.length := by omega
      have HR : Hid (Sl encU (fun g => w.heap.size ≤ g) wr u5 (l.map (·.1)) ∧ w.grownBy wr none) := Lib.hid ⟨by have := HX.out.1.sl; rwa [List.take_length] at this, HX.out.2⟩
      clear HX
      go_wp2
      go_ret
      exact ⟨_, rfl, HR.out⟩
    | succ m =>
      have hjn : (j : Int) < (l.length : Int) := by omega
      have hj0 : (0 : Int) ≤ (j : Int) := Int.natCast_nonneg j
      have hjN : j < l.length := by omega
      obtain ⟨g, o, c', e, _, _, hc0, hc1', hu0, hu1⟩ := (H.out.kept HX.out.2).atP hjN
      injection e with e1 e2 e3
      subst e1 e3
      have HSN := Lib.hid (half0_snoc l j hjN)
      have HA := Lib.hid HX.out.1
      have HG := Lib.hid HX.out.2
      have HU := Lib.hid (And.intro hu0 hu1)
      have HLB : Hid ((((l.take j).map (·.1)).length + 1) * 8 ≤ 140737488355328) := Lib.hid (by simp; omega)
      obtain ⟨x, hx⟩ : ∃ y, y = l[j] := ⟨_, rfl⟩
      rw [← hx] at hc0 hc1' HSN HU
      obtain ⟨x1, x2⟩ := x
      simp only at hc0 hc1'
      clear hu0 hu1 e2 HX hx hjN
      go_wp2_with (at_builtin; refine wpList_pushG rfl (.tmp 22) (.tmp 28) rfl (E := encU) el_u64 HG.out HA.out (fun _ h => h) ⟨rfl, HU.out.1⟩ HLB.out rfl rfl ?_)
      intro v3 w3 ha hg hgo
      have HFIN : Hid (Acc encU w.heap.size 22 (fun g => w.heap.size ≤ g) w3 v3 ((l.take (j + 1)).map (·.1)) ∧ w.grownBy w3 none) := Lib.hid ⟨by rw [HSN.out]; simpa using ha, hg⟩
      clear ha hg hgo
      go_wp2_with fail
      go_roundg m
      case measure => omega
      case rel => exact ⟨j + 1, by omega, by go_num, HFIN⟩
theorem half1_snoc (l : List (Int × Int)) (j : Nat) (h : j < l.length) : (l.take (j + 1)).map (·.2) = (l.take j).map (·.2) ++ [l[j].2] := map_take_snoc' (fun x : Int × Int => x.2) l j h
set_option maxRecDepth 100000 in
set_option maxHeartbeats 1000000 in
theorem rhalf1_any (v : Value) (l : List (Int × Int)) (X : Nat → Prop) (w : World) (h : Sl encP X w v l) (hb : l.length ≤ 100000) :
    Calls Try.prog 29 #[v, .bool true] w (Gives encU (fun g => w.heap.size ≤ g) w (l.map (·.2))) := by
  have H := Lib.hid h
  obtain ⟨A, c, rfl, hc1, hc2⟩ := h.form
  clear h
  go_enter Try.func29, Try.ntmps29
  go_wp2_with fail
  go_loopg [5, 6] l.length (fun g s5 s6 wx => ∃ j : Nat, j + g = l.length ∧ s6 = .int .i64 j ∧ Hid (Acc encU w.heap.size 22 (fun g => w.heap.size ≤ g) wx s5 ((l.take j).map (·.2)) ∧ w.grownBy wx none))
  case atStart => exact ⟨0, by omega, rfl, Lib.hid ⟨Acc.nil _ _ _ _ _, World.grownBy.refl _ _⟩⟩
  case round =>
    obtain ⟨j, hj, rfl, HX⟩ := hrel
    cases gk with
    | zero =>
      obtain rfl : j = l.length := by omega
      have HR : Hid (Sl encU (fun g => w.heap.size ≤ g) wr u5 (l.map (·.2)) ∧ w.grownBy wr none) := Lib.hid ⟨by have := HX.out.1.sl; rwa [List.take_length] at this, HX.out.2⟩
      clear HX
      go_wp2
      go_ret
      exact ⟨_, rfl, HR.out⟩
    | succ m =>
      have hjn : (j : Int) < (l.length : Int) := by omega
      have hj0 : (0 : Int) ≤ (j : Int) := Int.natCast_nonneg j
      have hjN : j < l.length := by omega
      obtain ⟨g, o, c', e, _, _, hc0, hc1', hu0, hu1⟩ := (H.out.kept HX.out.2).atP hjN
      injection e with e1 e2 e3
      subst e1 e3
      have HSN := Lib.hid (half1_snoc l j hjN)
      have HA := Lib.hid HX.out.1
      have HG := Lib.hid HX.out.2
      have HU := Lib.hid (And.intro hu0 hu1)
      have HLB : Hid ((((l.take j).map (·.2)).length + 1) * 8 ≤ 140737488355328) := Lib.hid (by simp; omega)
      obtain ⟨x, hx⟩ : ∃ y, y = l[j] := ⟨_, rfl⟩
      rw [← hx] at hc0 hc1' HSN HU
      obtain ⟨x1, x2⟩ := x
      simp only at hc0 hc1'
      clear hu0 hu1 e2 HX hx hjN
      go_wp2_with (at_builtin; refine wpList_pushG rfl (.tmp 14) (.tmp 20) rfl (E := encU) el_u64 HG.out HA.out (fun _ h => h) ⟨rfl, HU.out.2⟩ HLB.out rfl rfl ?_)
      intro v3 w3 ha hg hgo
      have HFIN : Hid (Acc encU w.heap.size 22 (fun g => w.heap.size ≤ g) w3 v3 ((l.take (j + 1)).map (·.2)) ∧ w.grownBy w3 none) := Lib.hid ⟨by rw [HSN.out]; simpa using ha, hg⟩
      clear ha hg hgo
      go_wp2_with fail
      go_roundg m
      case measure => omega
      case rel => exact ⟨j + 1, by omega, by go_num, HFIN⟩
set_option maxRecDepth 100000 in
set_option maxHeartbeats 2000000 in
theorem rat18_any (v : Value) (L : List (List (Int × Int))) (x q : Int) (X : Nat → Prop) (w : World) (h : Sl (encS encP) X w v L) (hx : U64 x) (hq : U64 q) (hb : L.length ≤ 100000) (hb2 : ∀ c ∈ L, c.length ≤ 100000) :
    Calls Try.prog 7 #[v, .int .u64 x, .int .u64 q] w (Gives encP (fun g => w.heap.size ≤ g) w (L.map (atP q x))) := by
  have H := Lib.hid h
  have HXU := Lib.hid hx
  have HQ := Lib.hid hq
  have HB2 := Lib.hid hb2
  obtain ⟨A, c, rfl, hc1, hc2⟩ := h.form
  clear h hx hq hb2
  go_enter Try.func7, Try.ntmps7
  go_wp2_with fail
  go_loopg [7, 8] L.length (fun g s7 s8 wx => ∃ j : Nat, j + g = L.length ∧ s8 = .int .i64 j ∧ Hid (Acc encP w.heap.size 44 (fun g => w.heap.size ≤ g) wx s7 ((L.take j).map (atP q x)) ∧ w.grownBy wx none))
  case atStart => exact ⟨0, by omega, rfl, Lib.hid ⟨Acc.nil _ _ _ _ _, World.grownBy.refl _ _⟩⟩
  case round =>
    obtain ⟨j, hj, rfl, HX⟩ := hrel
    cases gk with
    | zero =>
      obtain rfl : j = L.length := by omega
      have HR : Hid (Sl encP (fun g => w.heap.size ≤ g) wr u7 (L.map (atP q x)) ∧ w.grownBy wr none) := Lib.hid ⟨by have := HX.out.1.sl; rwa [List.take_length] at this, HX.out.2⟩
      clear HX
      go_wp2
      go_ret
      exact ⟨_, rfl, HR.out⟩
    | succ m =>
      have hjn : (j : Int) < (L.length : Int) := by omega
      have hj0 : (0 : Int) ≤ (j : Int) := Int.natCast_nonneg j
      have hjN : j < L.length := by omega
      obtain ⟨g, o, c', u, e, _, _, hcu, hsu⟩ := (H.out.kept HX.out.2).atS hjN
      injection e with e1 e2 e3
      subst e1 e3
      obtain ⟨Ac, nc, cc, rfl⟩ := hsu.shape
      have HSU := Lib.hid (hsu.kept (grown_drewN' wr 1))
      have HSN := Lib.hid (map_take_snoc' (atP q x) L j hjN)
      have HBL : Hid (L[j].length ≤ 100000) := Lib.hid (HB2.out _ (List.getElem_mem hjN))
      obtain ⟨A7, n7, c7, rfl⟩ := HX.out.1.sl.shape
      have HAw := Lib.hid (HX.out.1.kept (grown_drewN' wr 1))
      have HGw : Hid (w.grownBy wr.drew none) := Lib.hid (HX.out.2.trans (grown_drewN' wr 1))
      have HLC : Hid ((((L.take j).map (atP q x)).length + 1) * 16 ≤ 140737488355328) := Lib.hid (by simp; omega)
      have HLD : Hid (∀ W, wr.drew.grownBy W none → W.cell? ⟨g, o + j, none⟩ = some (.slice Ac nc cc)) := Lib.hid (fun W hW => cellK hcu ((grown_drewN' wr 1).trans hW) (by simp))
      obtain ⟨y, hy⟩ : ∃ y, y = L[j] := ⟨_, rfl⟩
      rw [← hy] at HSU HSN HBL
      have HH0 : Hid (∀ W, wr.drew.grownBy W none → Calls Try.prog 29 #[.slice Ac nc cc, .bool false] W (Gives encU (fun g => W.heap.size ≤ g) W (y.map (·.1)))) := Lib.hid (fun W hW => rhalf0_any _ y _ W (HSU.out.kept hW) HBL.out)
      have HH1 : Hid (∀ W, wr.drew.grownBy W none → Calls Try.prog 29 #[.slice Ac nc cc, .bool true] W (Gives encU (fun g => W.heap.size ≤ g) W (y.map (·.2)))) := Lib.hid (fun W hW => rhalf1_any _ y _ W (HSU.out.kept hW) HBL.out)
      obtain ⟨y1, hy1⟩ : ∃ z, z = y.map (·.1) := ⟨_, rfl⟩
      obtain ⟨y2, hy2⟩ : ∃ z, z = y.map (·.2) := ⟨_, rfl⟩
      have HAT : Hid (atP q x y = (evalI q y1 x, evalI q y2 x)) := Lib.hid (by rw [hy1, hy2]; rfl)
      rw [← hy1] at HH0
      rw [← hy2] at HH1
      obtain ⟨ea, hea⟩ : ∃ z, z = evalI q y1 x := ⟨_, rfl⟩
      obtain ⟨eb, heb⟩ : ∃ z, z = evalI q y2 x := ⟨_, rfl⟩
      have HU : Hid (U64 ea ∧ U64 eb) := Lib.hid (by rw [hea, heb]; exact ⟨evalI_U64 _ _ _, evalI_U64 _ _ _⟩)
      have HEA : Hid (∀ W v, Sl encU TT W v y1 → Calls Try.prog 28 #[v, .int .u64 x, .int .u64 q] W fun e w' => e = .returned (.int .u64 ea) ∧ W.grownBy w' none) := Lib.hid (fun W v hv => by rw [hea]; exact rvalueB_any v y1 x q TT W hv HXU.out HQ.out)
      have HEB : Hid (∀ W v, Sl encU TT W v y2 → Calls Try.prog 28 #[v, .int .u64 x, .int .u64 q] W fun e w' => e = .returned (.int .u64 eb) ∧ W.grownBy w' none) := Lib.hid (fun W v hv => by rw [heb]; exact rvalueB_any v y2 x q TT W hv HXU.out HQ.out)
      rw [HAT.out, ← hea, ← heb] at HSN
      clear hsu e2 HX hcu hy hy1 hy2 hea heb HAT
      go_upto_region 5 with (fail)
      refine wp_region_mono 19 (by kernel_rfl) (by kernel_rfl) ?_
      -- op 0 (slot 15): move
      refine MonoR.step (Pv.eq (.slice A7 n7 c7)) [] (by kernel_rfl) (fun w' hw' => ?_) ?_
      · refine ask_do rfl fun K hK => ?_
        go_simp
        exact hK _ _ rfl rfl (World.grownBy.refl _ none)
      -- op 1 (slot 16): move
      refine MonoR.step (Pv.eq (.slice (some ⟨g, o, none⟩) L.length c)) [] (by kernel_rfl) (fun w' hw' => ?_) ?_
      · refine ask_do rfl fun K hK => ?_
        go_simp
        exact hK _ _ rfl rfl (World.grownBy.refl _ none)
      -- op 2 (slot 17): move
      refine MonoR.step (Pv.eq (.int .i64 (j : Int))) [] (by kernel_rfl) (fun w' hw' => ?_) ?_
      · refine ask_do rfl fun K hK => ?_
        go_simp
        exact hK _ _ rfl rfl (World.grownBy.refl _ none)
      -- op 3 (slot 18): indexAddr
      refine MonoR.step (Pv.eq (.pointer (some ⟨g, o + j, none⟩))) [(1, 16), (2, 17)] (by kernel_rfl) (fun w' hw' => ?_) ?_
      · intro x16 h16
        intro x17 h17
        have e16 : x16 = .slice (some ⟨g, o, none⟩) L.length c := h16
        clear h16
        subst e16
        have e17 : x17 = .int .i64 (j : Int) := h17
        clear h17
        subst e17
        refine ask_do rfl fun K hK => ?_
        go_simp
        exact hK _ _ rfl rfl (World.grownBy.refl _ none)
      -- op 4 (slot 19): load
      refine MonoR.step (Pv.eq (.slice Ac nc cc)) [(3, 18)] (by kernel_rfl) (fun w' hw' => ?_) ?_
      · intro x18 h18
        have e18 : x18 = .pointer (some ⟨g, o + j, none⟩) := h18
        clear h18
        subst e18
        refine ask_do rfl fun K hK => ?_
        have q0 := HLD.out w' hw'
        go_simp
        exact hK _ _ rfl rfl (World.grownBy.refl _ none)
      -- op 5 (slot 20): call
      refine MonoR.step (Pv.sl (encU) TT y1) [(4, 19)] (by kernel_rfl) (fun w' hw' => ?_) ?_
      · intro x19 h19
        have e19 : x19 = .slice Ac nc cc := h19
        clear h19
        subst e19
        refine ask_do rfl fun K hK => ?_
        go_simp
        refine (HH0.out w' hw').mono ?_
        rintro e w3 ⟨v3, rfl, h3, hg⟩
        exact hK _ _ rfl (h3.more (fun _ _ _ => trivial)) hg
      -- op 6 (slot 21): move
      refine MonoR.step (Pv.eq (.int .u64 x)) [] (by kernel_rfl) (fun w' hw' => ?_) ?_
      · refine ask_do rfl fun K hK => ?_
        go_simp
        exact hK _ _ rfl rfl (World.grownBy.refl _ none)
      -- op 7 (slot 22): move
      refine MonoR.step (Pv.eq (.int .u64 q)) [] (by kernel_rfl) (fun w' hw' => ?_) ?_
      · refine ask_do rfl fun K hK => ?_
        go_simp
        exact hK _ _ rfl rfl (World.grownBy.refl _ none)
      -- op 8 (slot 23): call
      refine MonoR.step (Pv.eq (.int .u64 ea)) [(5, 20), (6, 21), (7, 22)] (by kernel_rfl) (fun w' hw' => ?_) ?_
      · intro x20 h20
        have h20 : Sl (encU) TT w' x20 y1 := h20
        obtain ⟨A20, c20, e20, k20, l20⟩ := h20.form
        have e20 : x20 = .slice A20 y1.length c20 := e20
        subst e20
        intro x21 h21
        intro x22 h22
        have e21 : x21 = .int .u64 x := h21
        clear h21
        subst e21
        have e22 : x22 = .int .u64 q := h22
        clear h22
        subst e22
        refine ask_do rfl fun K hK => ?_
        go_simp
        refine (HEA.out w' _ h20).mono ?_
        rintro e w3 ⟨rfl, hg⟩
        exact hK _ _ rfl rfl hg
      -- op 9 (slot 24): move
      refine MonoR.step (Pv.eq (.slice (some ⟨g, o, none⟩) L.length c)) [] (by kernel_rfl) (fun w' hw' => ?_) ?_
      · refine ask_do rfl fun K hK => ?_
        go_simp
        exact hK _ _ rfl rfl (World.grownBy.refl _ none)
      -- op 10 (slot 25): move
      refine MonoR.step (Pv.eq (.int .i64 (j : Int))) [] (by kernel_rfl) (fun w' hw' => ?_) ?_
      · refine ask_do rfl fun K hK => ?_
        go_simp
        exact hK _ _ rfl rfl (World.grownBy.refl _ none)
      -- op 11 (slot 26): indexAddr
      refine MonoR.step (Pv.eq (.pointer (some ⟨g, o + j, none⟩))) [(9, 24), (10, 25)] (by kernel_rfl) (fun w' hw' => ?_) ?_
      · intro x24 h24
        intro x25 h25
        have e24 : x24 = .slice (some ⟨g, o, none⟩) L.length c := h24
        clear h24
        subst e24
        have e25 : x25 = .int .i64 (j : Int) := h25
        clear h25
        subst e25
        refine ask_do rfl fun K hK => ?_
        go_simp
        exact hK _ _ rfl rfl (World.grownBy.refl _ none)
      -- op 12 (slot 27): load
      refine MonoR.step (Pv.eq (.slice Ac nc cc)) [(11, 26)] (by kernel_rfl) (fun w' hw' => ?_) ?_
      · intro x26 h26
        have e26 : x26 = .pointer (some ⟨g, o + j, none⟩) := h26
        clear h26
        subst e26
        refine ask_do rfl fun K hK => ?_
        have q0 := HLD.out w' hw'
        go_simp
        exact hK _ _ rfl rfl (World.grownBy.refl _ none)
      -- op 13 (slot 28): call
      refine MonoR.step (Pv.sl (encU) TT y2) [(12, 27)] (by kernel_rfl) (fun w' hw' => ?_) ?_
      · intro x27 h27
        have e27 : x27 = .slice Ac nc cc := h27
        clear h27
        subst e27
        refine ask_do rfl fun K hK => ?_
        go_simp
        refine (HH1.out w' hw').mono ?_
        rintro e w3 ⟨v3, rfl, h3, hg⟩
        exact hK _ _ rfl (h3.more (fun _ _ _ => trivial)) hg
      -- op 14 (slot 29): move
      refine MonoR.step (Pv.eq (.int .u64 x)) [] (by kernel_rfl) (fun w' hw' => ?_) ?_
      · refine ask_do rfl fun K hK => ?_
        go_simp
        exact hK _ _ rfl rfl (World.grownBy.refl _ none)
      -- op 15 (slot 30): move
      refine MonoR.step (Pv.eq (.int .u64 q)) [] (by kernel_rfl) (fun w' hw' => ?_) ?_
      · refine ask_do rfl fun K hK => ?_
        go_simp
        exact hK _ _ rfl rfl (World.grownBy.refl _ none)
      -- op 16 (slot 31): call
      refine MonoR.step (Pv.eq (.int .u64 eb)) [(13, 28), (14, 29), (15, 30)] (by kernel_rfl) (fun w' hw' => ?_) ?_
      · intro x28 h28
        have h28 : Sl (encU) TT w' x28 y2 := h28
        obtain ⟨A28, c28, e28, k28, l28⟩ := h28.form
        have e28 : x28 = .slice A28 y2.length c28 := e28
        subst e28
        intro x29 h29
        intro x30 h30
        have e29 : x29 = .int .u64 x := h29
        clear h29
        subst e29
        have e30 : x30 = .int .u64 q := h30
        clear h30
        subst e30
        refine ask_do rfl fun K hK => ?_
        go_simp
        refine (HEB.out w' _ h28).mono ?_
        rintro e w3 ⟨rfl, hg⟩
        exact hK _ _ rfl rfl hg
      -- op 17 (slot 32): build
      refine MonoR.step (Pv.eq (.agg #[.int .u64 ea, .int .u64 eb])) [(8, 23), (16, 31)] (by kernel_rfl) (fun w' hw' => ?_) ?_
      · intro x23 h23
        intro x31 h31
        have e23 : x23 = .int .u64 ea := h23
        clear h23
        subst e23
        have e31 : x31 = .int .u64 eb := h31
        clear h31
        subst e31
        refine ask_do rfl fun K hK => ?_
        go_simp
        exact hK _ _ rfl rfl (World.grownBy.refl _ none)
      -- op 18 (slot 33): buildSlice
      refine MonoR.step (Pv.sl (encP) TT [(ea, eb)]) [(17, 32)] (by kernel_rfl) (fun w' hw' => ?_) ?_
      · intro x32 h32
        have e32 : x32 = .agg #[.int .u64 ea, .int .u64 eb] := h32
        clear h32
        subst e32
        refine ask_do rfl fun K hK => ?_
        go_simp
        exact hK _ _ rfl (Sl.build [[.int .u64 ea, .int .u64 eb]] rfl ⟨⟨rfl, HU.out⟩, trivial⟩ rfl (by decide)) (World.grownBy_alloc w' _ none)
      
      intro w5 hw5
      intro y0 k0 y1 k1 y2 k2 y3 k3 y4 k4 y5 k5 y6 k6 y7 k7 y8 k8 y9 k9 y10 k10 y11 k11 y12 k12 y13 k13 y14 k14 y15 k15 y16 k16 y17 k17 y18 h18
      show wpList Try.prog _ _ _ _ w5
      simp only [Act.put, List.setIfInBounds_toArray, List.set_cons_zero, List.set_cons_succ]
      have e0 : y0 = .slice A7 n7 c7 := k0
      subst e0
      obtain ⟨A18, c18, e18, _, _⟩ := h18.form
      have e18 : y18 = .slice A18 1 c18 := e18
      subst e18
      have HA5 := Lib.hid (HAw.out.kept hw5)
      have HG5 : Hid (w.grownBy w5 none) := Lib.hid (HGw.out.trans hw5)
      have HS18 : Hid (Sl encP TT w5 (.slice A18 1 c18) [(ea, eb)]) := Lib.hid h18
      clear k0 k1 k2 k3 k4 k5 k6 k7 k8 k9 k10 k11 k12 k13 k14 k15 k16 k17 h18 hw5
      refine wpList_apps rfl (.tmp 15) (.tmp 33) rfl (E := encP) el_pair HA5.out rfl rfl HS18.out (fun _ _ h => h) HLC.out HG5.out.size (fun g hg => Nat.le_trans HG5.out.size hg) ?_
      intro v6 w6 ha hgr _
      have HFIN : Hid (Acc encP w.heap.size 44 (fun g => w.heap.size ≤ g) w6 v6 ((L.take (j + 1)).map (atP q x)) ∧ w.grownBy w6 none) := Lib.hid ⟨by rw [HSN.out]; exact ha, grown_up HG5.out hgr (fun g he => (HA5.out.lt g he).1)⟩
      clear ha hgr
      go_wp2_with fail
      go_roundg m
      case measure => omega
      case rel => exact ⟨j + 1, by omega, by go_num, HFIN⟩
set_option maxRecDepth 100000 in
set_option maxHeartbeats 2000000 in
theorem rshare_any (p : Par) (v : Value) (L : List (List Int)) (i : Int) (X : Nat → Prop) (w : World) (hp : p.ok) (h : Sl (encS encU) X w v L) (hi : U64 i) (hb : L.length ≤ 100000) :
    Calls Try.prog 54 #[p.v, v, .int .u64 i] w (Gives encU (fun g => w.heap.size ≤ g) w (shareI p L i)) := by
  have H := Lib.hid h
  have HP := Lib.hid hp
  have HI := Lib.hid hi
  obtain ⟨A, c, rfl, hc1, hc2⟩ := h.form
  obtain ⟨w0, hw0⟩ : ∃ y, y = w.alloc (Obj.cells p.cells 24) := ⟨_, rfl⟩
  have HB0 : Hid (Bk w0 w.heap.size 24 p.cells) := Lib.hid (by rw [hw0]; exact Bk.new w _ _)
  have HG0 : Hid (w.grownBy w0 none) := Lib.hid (by rw [hw0]; exact World.grownBy_alloc w _ none)
  clear h hi hp
  go_enter Try.func54, Try.ntmps54
  go_wp2_with fail
  rw [← hw0]
  clear hw0
  go_loopg [7, 8] L.length (fun g s7 s8 wx => ∃ j : Nat, j + g = L.length ∧ s8 = .int .i64 j ∧ Hid (Acc encU w0.heap.size 22 (fun g => w0.heap.size ≤ g) wx s7 ((L.take j).map fun l => atI p l i) ∧ w0.grownBy wx none))
  case atStart => exact ⟨0, by omega, rfl, Lib.hid ⟨Acc.nil _ _ _ _ _, World.grownBy.refl _ _⟩⟩
  case round =>
    obtain ⟨j, hj, rfl, HX⟩ := hrel
    cases gk with
    | zero =>
      obtain rfl : j = L.length := by omega
      have HR : Hid (Sl encU (fun g => w.heap.size ≤ g) wr u7 (shareI p L i) ∧ w.grownBy wr none) := Lib.hid ⟨by
        have h := HX.out.1.sl
        rw [List.take_length] at h
        exact h.more fun g _ hg => Nat.le_trans HG0.out.size hg, HG0.out.trans HX.out.2⟩
      clear HX
      go_wp2
      go_ret
      exact ⟨_, rfl, HR.out⟩
    | succ m =>
      have hjn : (j : Int) < (L.length : Int) := by omega
      have hj0 : (0 : Int) ≤ (j : Int) := Int.natCast_nonneg j
      have hjN : j < L.length := by omega
      obtain ⟨g, o, c', u, e, _, _, hcu, hsu⟩ := (H.out.kept (HG0.out.trans HX.out.2)).atS hjN
      injection e with e1 e2 e3
      subst e1 e3
      obtain ⟨Ac, nc, cc, rfl⟩ := hsu.shape
      have HSU := Lib.hid (hsu.kept (grown_drewN' wr 1))
      have HSN := Lib.hid (map_take_snoc' (fun l => atI p l i) L j hjN)
      obtain ⟨A7, n7, c7, rfl⟩ := HX.out.1.sl.shape
      have HAw := Lib.hid (HX.out.1.kept (grown_drewN' wr 1))
      have HGw : Hid (w0.grownBy wr.drew none) := Lib.hid (HX.out.2.trans (grown_drewN' wr 1))
      have HLC : Hid ((((L.take j).map fun l => atI p l i).length + 1) * 8 ≤ 140737488355328) := Lib.hid (by simp; omega)
      have HLD : Hid (∀ W, wr.drew.grownBy W none → W.cell? ⟨g, o + j, none⟩ = some (.slice Ac nc cc) ∧ ∀ o, W.cell? ⟨w.heap.size, o, none⟩ = (#[.int .u64 p.P, .int .u64 p.Q, .int .u64 p.G, .int .u64 p.H, .int .i64 p.Nodes, .int .i64 p.N, .int .i64 p.T, .int .i64 p.K, .int .i64 p.D, .int .i64 p.R, .int .i64 p.M, .int .i64 p.X] : Array Value)[o]?) := Lib.hid (fun W hW => ⟨cellK hcu ((grown_drewN' wr 1).trans hW) (by simp), (HB0.out.grown (HGw.out.trans hW) (by simp)).prule⟩)
      have HEV : Hid (∀ W, wr.drew.grownBy W none → Calls Try.prog 53 #[p.v, .slice Ac nc cc, .int .u64 i] W fun e w' => e = .returned (.int .u64 (atI p L[j] i)) ∧ W.grownBy w' none) := Lib.hid (fun W hW => rat_all p _ L[j] i _ W HP.out (HSU.out.kept hW) HI.out)
      obtain ⟨z, hz⟩ : ∃ z, z = atI p L[j] i := ⟨_, rfl⟩
      have HU : Hid (U64 z) := Lib.hid (by rw [hz]; exact atI_U64 _ _ _)
      rw [← hz] at HSN HEV
      clear hsu e2 HX hcu hz
      go_upto_region 5 with (fail)
      refine wp_region_mono 9 (by kernel_rfl) (by kernel_rfl) ?_
      -- op 0 (slot 15): move
      refine MonoR.step (Pv.eq (.slice A7 n7 c7)) [] (by kernel_rfl) (fun w' hw' => ?_) ?_
      · refine ask_do rfl fun K hK => ?_
        go_simp
        exact hK _ _ rfl rfl (World.grownBy.refl _ none)
      -- op 1 (slot 16): load
      refine MonoR.step (Pv.eq (p.v)) [] (by kernel_rfl) (fun w' hw' => ?_) ?_
      · refine ask_do rfl fun K hK => ?_
        obtain ⟨q0, hp⟩ := HLD.out w' hw'
        go_simp
        exact hK _ _ rfl rfl (World.grownBy.refl _ none)
      -- op 2 (slot 17): move
      refine MonoR.step (Pv.eq (.slice (some ⟨g, o, none⟩) L.length c)) [] (by kernel_rfl) (fun w' hw' => ?_) ?_
      · refine ask_do rfl fun K hK => ?_
        go_simp
        exact hK _ _ rfl rfl (World.grownBy.refl _ none)
      -- op 3 (slot 18): move
      refine MonoR.step (Pv.eq (.int .i64 (j : Int))) [] (by kernel_rfl) (fun w' hw' => ?_) ?_
      · refine ask_do rfl fun K hK => ?_
        go_simp
        exact hK _ _ rfl rfl (World.grownBy.refl _ none)
      -- op 4 (slot 19): indexAddr
      refine MonoR.step (Pv.eq (.pointer (some ⟨g, o + j, none⟩))) [(2, 17), (3, 18)] (by kernel_rfl) (fun w' hw' => ?_) ?_
      · intro x17 h17
        intro x18 h18
        have e17 : x17 = .slice (some ⟨g, o, none⟩) L.length c := h17
        clear h17
        subst e17
        have e18 : x18 = .int .i64 (j : Int) := h18
        clear h18
        subst e18
        refine ask_do rfl fun K hK => ?_
        go_simp
        exact hK _ _ rfl rfl (World.grownBy.refl _ none)
      -- op 5 (slot 20): load
      refine MonoR.step (Pv.eq (.slice Ac nc cc)) [(4, 19)] (by kernel_rfl) (fun w' hw' => ?_) ?_
      · intro x19 h19
        have e19 : x19 = .pointer (some ⟨g, o + j, none⟩) := h19
        clear h19
        subst e19
        refine ask_do rfl fun K hK => ?_
        obtain ⟨q0, hp⟩ := HLD.out w' hw'
        go_simp
        exact hK _ _ rfl rfl (World.grownBy.refl _ none)
      -- op 6 (slot 21): move
      refine MonoR.step (Pv.eq (.int .u64 i)) [] (by kernel_rfl) (fun w' hw' => ?_) ?_
      · refine ask_do rfl fun K hK => ?_
        go_simp
        exact hK _ _ rfl rfl (World.grownBy.refl _ none)
      -- op 7 (slot 22): call
      refine MonoR.step (Pv.eq (.int .u64 z)) [(1, 16), (5, 20), (6, 21)] (by kernel_rfl) (fun w' hw' => ?_) ?_
      · intro x16 h16
        intro x20 h20
        intro x21 h21
        have e16 : x16 = p.v := h16
        clear h16
        subst e16
        have e20 : x20 = .slice Ac nc cc := h20
        clear h20
        subst e20
        have e21 : x21 = .int .u64 i := h21
        clear h21
        subst e21
        refine ask_do rfl fun K hK => ?_
        go_simp
        refine (HEV.out w' hw').mono ?_
        rintro e w3 ⟨rfl, hg⟩
        exact hK _ _ rfl rfl hg
      -- op 8 (slot 23): buildSlice
      refine MonoR.step (Pv.sl (encU) TT [z]) [(7, 22)] (by kernel_rfl) (fun w' hw' => ?_) ?_
      · intro x22 h22
        have e22 : x22 = .int .u64 z := h22
        clear h22
        subst e22
        refine ask_do rfl fun K hK => ?_
        go_simp
        exact hK _ _ rfl (Sl.build [[.int .u64 z]] rfl ⟨⟨rfl, HU.out⟩, trivial⟩ rfl (by decide)) (World.grownBy_alloc w' _ none)
      
      intro w5 hw5
      intro y0 k0 y1 k1 y2 k2 y3 k3 y4 k4 y5 k5 y6 k6 y7 k7 y8 h8
      show wpList Try.prog _ _ _ _ w5
      simp only [Act.put, List.setIfInBounds_toArray, List.set_cons_zero, List.set_cons_succ]
      have e0 : y0 = .slice A7 n7 c7 := k0
      subst e0
      obtain ⟨A8, c8, e8, _, _⟩ := h8.form
      have e8 : y8 = .slice A8 1 c8 := e8
      subst e8
      have HA5 := Lib.hid (HAw.out.kept hw5)
      have HG5 : Hid (w0.grownBy w5 none) := Lib.hid (HGw.out.trans hw5)
      have HS8 : Hid (Sl encU TT w5 (.slice A8 1 c8) [z]) := Lib.hid h8
      clear k0 k1 k2 k3 k4 k5 k6 k7 h8 hw5
      refine wpList_apps rfl (.tmp 15) (.tmp 23) rfl (E := encU) el_u64 HA5.out rfl rfl HS8.out (fun _ _ h => h) HLC.out HG5.out.size (fun g hg => Nat.le_trans HG5.out.size hg) ?_
      intro v6 w6 ha hgr _
      have HFIN : Hid (Acc encU w0.heap.size 22 (fun g => w0.heap.size ≤ g) w6 v6 ((L.take (j + 1)).map fun l => atI p l i) ∧ w0.grownBy w6 none) := Lib.hid ⟨by rw [HSN.out]; exact ha, grown_up HG5.out hgr (fun g he => (HA5.out.lt g he).1)⟩
      clear ha hgr
      go_wp2_with fail
      go_roundg m
      case measure => omega
      case rel => exact ⟨j + 1, by omega, by go_num, HFIN⟩
set_option maxRecDepth 100000 in
set_option maxHeartbeats 2000000 in
theorem rcolComs_any (p : Par) (v : Value) (L : List (List (List Int))) (i : Int) (X : Nat → Prop) (w : World) (hp : p.ok) (h : Sl (encS (encS encU)) X w v L) (hi : U64 i) (hb : L.length ≤ 100000) (hb2 : ∀ l ∈ L, l.length ≤ 100000) :
    Calls Try.prog 36 #[p.v, v, .int .u64 i] w (Gives (encS encU) (fun g => w.heap.size ≤ g) w (colComsI p L i)) := by
  have H := Lib.hid h
  have HP := Lib.hid hp
  have HI := Lib.hid hi
  have HB2 := Lib.hid hb2
  obtain ⟨A, c, rfl, hc1, hc2⟩ := h.form
  obtain ⟨w0, hw0⟩ : ∃ y, y = w.alloc (Obj.cells p.cells 24) := ⟨_, rfl⟩
  have HB0 : Hid (Bk w0 w.heap.size 24 p.cells) := Lib.hid (by rw [hw0]; exact Bk.new w _ _)
  have HG0 : Hid (w.grownBy w0 none) := Lib.hid (by rw [hw0]; exact World.grownBy_alloc w _ none)
  clear h hi hp hb2
  go_enter Try.func36, Try.ntmps36
  go_wp2_with fail
  rw [← hw0]
  clear hw0
  go_loopg [7, 8] L.length (fun g s7 s8 wx => ∃ j : Nat, j + g = L.length ∧ s8 = .int .i64 j ∧ Hid (Acc (encS encU) w0.heap.size 35 (fun g => w0.heap.size ≤ g) wx s7 ((L.take j).map fun l => shareI p l i) ∧ w0.grownBy wx none))
  case atStart => exact ⟨0, by omega, rfl, Lib.hid ⟨Acc.nil _ _ _ _ _, World.grownBy.refl _ _⟩⟩
  case round =>
    obtain ⟨j, hj, rfl, HX⟩ := hrel
    cases gk with
    | zero =>
      obtain rfl : j = L.length := by omega
      have HR : Hid (Sl (encS encU) (fun g => w.heap.size ≤ g) wr u7 (colComsI p L i) ∧ w.grownBy wr none) := Lib.hid ⟨by
        have h := HX.out.1.sl
        rw [List.take_length] at h
        exact h.more fun g _ hg => Nat.le_trans HG0.out.size hg, HG0.out.trans HX.out.2⟩
      clear HX
      go_wp2
      go_ret
      exact ⟨_, rfl, HR.out⟩
    | succ m =>
      have hjn : (j : Int) < (L.length : Int) := by omega
      have hj0 : (0 : Int) ≤ (j : Int) := Int.natCast_nonneg j
      have hjN : j < L.length := by omega
      obtain ⟨g, o, c', u, e, _, _, hcu, hsu⟩ := (H.out.kept (HG0.out.trans HX.out.2)).atS hjN
      injection e with e1 e2 e3
      subst e1 e3
      obtain ⟨Ac, nc, cc, rfl⟩ := hsu.shape
      have HSU := Lib.hid (hsu.kept (grown_drewN' wr 1))
      have HSN := Lib.hid (map_take_snoc' (fun l => shareI p l i) L j hjN)
      have HBL : Hid (L[j].length ≤ 100000) := Lib.hid (HB2.out _ (List.getElem_mem hjN))
      obtain ⟨A7, n7, c7, rfl⟩ := HX.out.1.sl.shape
      have HAw := Lib.hid (HX.out.1.kept (grown_drewN' wr 1))
      have HGw : Hid (w0.grownBy wr.drew none) := Lib.hid (HX.out.2.trans (grown_drewN' wr 1))
      have HLC : Hid ((((L.take j).map fun l => shareI p l i).length + 1) * 24 ≤ 140737488355328) := Lib.hid (by simp; omega)
      have HLD : Hid (∀ W, wr.drew.grownBy W none → W.cell? ⟨g, o + j, none⟩ = some (.slice Ac nc cc) ∧ ∀ o, W.cell? ⟨w.heap.size, o, none⟩ = (#[.int .u64 p.P, .int .u64 p.Q, .int .u64 p.G, .int .u64 p.H, .int .i64 p.Nodes, .int .i64 p.N, .int .i64 p.T, .int .i64 p.K, .int .i64 p.D, .int .i64 p.R, .int .i64 p.M, .int .i64 p.X] : Array Value)[o]?) := Lib.hid (fun W hW => ⟨cellK hcu ((grown_drewN' wr 1).trans hW) (by simp), (HB0.out.grown (HGw.out.trans hW) (by simp)).prule⟩)
      have HEV : Hid (∀ W, wr.drew.grownBy W none → Calls Try.prog 54 #[p.v, .slice Ac nc cc, .int .u64 i] W (Gives encU (fun g => W.heap.size ≤ g) W (shareI p L[j] i))) := Lib.hid (fun W hW => rshare_any p _ L[j] i _ W HP.out (HSU.out.kept hW) HI.out HBL.out)
      obtain ⟨z, hz⟩ : ∃ z, z = shareI p L[j] i := ⟨_, rfl⟩
      rw [← hz] at HSN HEV
      obtain ⟨N, hN⟩ : ∃ y, y = wr.drew.heap.size := ⟨_, rfl⟩
      have HN := Lib.hid hN
      clear hsu e2 HX hcu hz hN
      go_upto_region 5 with (fail)
      refine wp_region_mono 9 (by kernel_rfl) (by kernel_rfl) ?_
      -- op 0 (slot 15): move
      refine MonoR.step (Pv.eq (.slice A7 n7 c7)) [] (by kernel_rfl) (fun w' hw' => ?_) ?_
      · refine ask_do rfl fun K hK => ?_
        go_simp
        exact hK _ _ rfl rfl (World.grownBy.refl _ none)
      -- op 1 (slot 16): load
      refine MonoR.step (Pv.eq (p.v)) [] (by kernel_rfl) (fun w' hw' => ?_) ?_
      · refine ask_do rfl fun K hK => ?_
        obtain ⟨q0, hp⟩ := HLD.out w' hw'
        go_simp
        exact hK _ _ rfl rfl (World.grownBy.refl _ none)
      -- op 2 (slot 17): move
      refine MonoR.step (Pv.eq (.slice (some ⟨g, o, none⟩) L.length c)) [] (by kernel_rfl) (fun w' hw' => ?_) ?_
      · refine ask_do rfl fun K hK => ?_
        go_simp
        exact hK _ _ rfl rfl (World.grownBy.refl _ none)
      -- op 3 (slot 18): move
      refine MonoR.step (Pv.eq (.int .i64 (j : Int))) [] (by kernel_rfl) (fun w' hw' => ?_) ?_
      · refine ask_do rfl fun K hK => ?_
        go_simp
        exact hK _ _ rfl rfl (World.grownBy.refl _ none)
      -- op 4 (slot 19): indexAddr
      refine MonoR.step (Pv.eq (.pointer (some ⟨g, o + j, none⟩))) [(2, 17), (3, 18)] (by kernel_rfl) (fun w' hw' => ?_) ?_
      · intro x17 h17
        intro x18 h18
        have e17 : x17 = .slice (some ⟨g, o, none⟩) L.length c := h17
        clear h17
        subst e17
        have e18 : x18 = .int .i64 (j : Int) := h18
        clear h18
        subst e18
        refine ask_do rfl fun K hK => ?_
        go_simp
        exact hK _ _ rfl rfl (World.grownBy.refl _ none)
      -- op 5 (slot 20): load
      refine MonoR.step (Pv.eq (.slice Ac nc cc)) [(4, 19)] (by kernel_rfl) (fun w' hw' => ?_) ?_
      · intro x19 h19
        have e19 : x19 = .pointer (some ⟨g, o + j, none⟩) := h19
        clear h19
        subst e19
        refine ask_do rfl fun K hK => ?_
        obtain ⟨q0, hp⟩ := HLD.out w' hw'
        go_simp
        exact hK _ _ rfl rfl (World.grownBy.refl _ none)
      -- op 6 (slot 21): move
      refine MonoR.step (Pv.eq (.int .u64 i)) [] (by kernel_rfl) (fun w' hw' => ?_) ?_
      · refine ask_do rfl fun K hK => ?_
        go_simp
        exact hK _ _ rfl rfl (World.grownBy.refl _ none)
      -- op 7 (slot 22): call
      refine MonoR.step (slF encU N z) [(1, 16), (5, 20), (6, 21)] (by kernel_rfl) (fun w' hw' => ?_) ?_
      · intro x16 h16
        intro x20 h20
        intro x21 h21
        have e16 : x16 = p.v := h16
        clear h16
        subst e16
        have e20 : x20 = .slice Ac nc cc := h20
        clear h20
        subst e20
        have e21 : x21 = .int .u64 i := h21
        clear h21
        subst e21
        refine ask_do rfl fun K hK => ?_
        go_simp
        refine (HEV.out w' hw').mono ?_
        rintro e w3 ⟨v3, rfl, hs3, hg⟩
        exact hK _ _ rfl (hs3.more fun b _ hb => Nat.le_trans (by rw [HN.out]; exact hw'.size) hb) hg
      -- op 8 (slot 23): buildSlice
      refine MonoR.step (blkF encU 35 N z) [(7, 22)] (by kernel_rfl) (fun w' hw' => ?_) ?_
      · intro x22 h22
        have h22 : Sl encU (fun b => N ≤ b) w' x22 z := h22
        obtain ⟨A22, c22, e22, k22, l22⟩ := h22.form
        subst e22
        refine ask_do rfl fun K hK => ?_
        go_simp
        exact hK _ _ rfl ⟨_, _, _, _, rfl, Bk.new w' _ _, h22.kept (World.grownBy_alloc w' _ none)⟩ (World.grownBy_alloc w' _ none)
      
      intro w5 hw5
      intro y0 k0 y1 k1 y2 k2 y3 k3 y4 k4 y5 k5 y6 k6 y7 k7 y8 k8
      show wpList Try.prog _ _ _ _ w5
      simp only [Act.put, List.setIfInBounds_toArray, List.set_cons_zero, List.set_cons_succ]
      have e0 : y0 = .slice A7 n7 c7 := k0
      subst e0
      obtain ⟨Ay, ny, cy, by', ey, hky, hsy⟩ := blkF_out k8
      subst ey
      have HA5 := Lib.hid (HAw.out.kept hw5)
      have HG5 : Hid (w0.grownBy w5 none) := Lib.hid (HGw.out.trans hw5)
      have HKY := Lib.hid hky
      have HREP : Hid ((encS encU).rep (fun b => w0.heap.size ≤ b ∧ some b ≠ (Value.slice A7 n7 c7).ownBlock) w5 [.slice Ay ny cy] z) := Lib.hid ⟨_, rfl, hsy.more fun b _ hb => by
        rw [HN.out] at hb
        exact ⟨Nat.le_trans HGw.out.size hb, fun e => absurd hb (Nat.not_le_of_lt (HAw.out.lt b e.symm).2)⟩⟩
      clear hky hsy k0 k1 k2 k3 k4 k5 k6 k7 k8 hw5 HAw HN
      refine wpList_plain rfl fun K hK => ?_
      refine pushAt_core (E := encS encU) (y := z) el_nums HA5.out HREP.out (Bk.one HKY.out) HLC.out HG5.out.size (fun g hg => Nat.le_trans HG5.out.size hg) (.tmp 15) (.tmp 23) rfl rfl rfl ?_
      intro v6 w6 ha hgr hm
      refine hK _ _ ?_
      clear hK
      have HFIN : Hid (Acc (encS encU) w0.heap.size 35 (fun g => w0.heap.size ≤ g) w6 v6 ((L.take (j + 1)).map fun l => shareI p l i) ∧ w0.grownBy w6 none) := Lib.hid ⟨by rw [HSN.out]; exact ha, grown_up HG5.out hgr (fun g he => (HA5.out.lt g he).1)⟩
      clear ha hgr hm
      go_wp2_with fail
      go_roundg m
      case measure => omega
      case rel => exact ⟨j + 1, by omega, by go_num, HFIN⟩
end Go.Proofs.Ytphbcfpiklmmeaa

namespace Go.Proofs.Ytphbcfpiklmmeaa
open Go Go.RowKit

theorem pairsOne_any (x : Int × Int) (w : World) (hx : U64 x.1 ∧ U64 x.2) :
    Calls Try.prog 43 #[.agg #[.int .u64 x.1, .int .u64 x.2]] w (Gives encU (fun g => w.heap.size ≤ g) w [x.1, x.2]) := by
  have HX := Lib.hid hx
  have HS : Hid (Sl encU (fun g => w.heap.size ≤ g) ((w.alloc (Obj.cells #[.int .u64 x.1, .int .u64 x.2] 44)).alloc (.cells #[.int .u64 x.1, .int .u64 x.2] 22)) (.slice (some ⟨w.heap.size + 1, 0, none⟩) 2 2) [x.1, x.2]) := Lib.hid (by
    have h := Bk.new (w.alloc (Obj.cells #[.int .u64 x.1, .int .u64 x.2] 44)) 22 #[.int .u64 x.1, .int .u64 x.2]
    rw [World.size_alloc] at h
    exact Sl.block (xs := [x.1, x.2]) h (by omega) [[.int .u64 x.1], [.int .u64 x.2]] rfl (fun i hi hi' => by
      match i, hi with
      | 0, _ => exact ⟨rfl, HX.out.1⟩
      | 1, _ => exact ⟨rfl, HX.out.2⟩) rfl (Nat.le_refl _) (by decide))
  obtain ⟨a, b⟩ := x
  clear hx
  go_enter Try.func43, Try.ntmps43
  go_wp2
  go_ret
  exact ⟨_, rfl, HS.out, grown_two⟩
set_option maxHeartbeats 1000000 in
theorem eachPairs_any (v : Value) (l : List (Int × Int)) (X : Nat → Prop) (w : World) (h : Sl encP X w v l) (hb : l.length ≤ 1000) :
    Calls Try.prog 42 #[v, .func (.func 43) #[] #[]] w (Gives (encS encU) (fun g => w.heap.size ≤ g) w (l.map fun x => [x.1, x.2])) := by
  have H := Lib.hid h
  have HB := Lib.hid hb
  obtain ⟨A, c, rfl, hc1, hc2⟩ := h.form
  clear h hb
  go_enter Try.func42, Try.ntmps42
  go_wp2_with fail
  go_loopg [5, 10] l.length (fun g s5 s10 wx => ∃ j : Nat, j + g = l.length ∧ s10 = .int .i64 j ∧ Hid (Acc (encS encU) w.heap.size 35 (fun g => w.heap.size ≤ g) wx s5 ((l.take j).map fun x => [x.1, x.2]) ∧ w.grownBy wx none))
  case atStart => exact ⟨0, by omega, rfl, Lib.hid ⟨Acc.nil _ _ _ _ _, World.grownBy.refl _ none⟩⟩
  case round =>
    obtain ⟨j, hj, rfl, HX⟩ := hrel
    cases gk with
    | zero =>
      obtain rfl : j = l.length := by omega
      have HR : Hid (Sl (encS encU) (fun g => w.heap.size ≤ g) wr u5 (l.map fun x => [x.1, x.2]) ∧ w.grownBy wr none) := Lib.hid ⟨by have := HX.out.1.sl; rwa [List.take_length] at this, HX.out.2⟩
      clear HX
      go_wp2
      go_ret
      exact ⟨_, rfl, HR.out.1, HR.out.2⟩
    | succ m =>
      have hjn : (j : Int) < (l.length : Int) := by omega
      have hjN : j < l.length := by omega
      obtain ⟨hacc, hg⟩ := HX.out
      obtain ⟨g, o, c', e, _, _, hc0, hc1', hu1, hu2⟩ := (H.out.kept hg).atP hjN
      injection e with e1 e2 e3
      subst e1 e3
      have HSN : Hid ((l.take (j + 1)).map (fun x => [x.1, x.2]) = (l.take j).map (fun x => [x.1, x.2]) ++ [[l[j].1, l[j].2]]) := Lib.hid (by rw [List.take_succ_eq_append_getElem hjN, List.map_append]; rfl)
      have HU := Lib.hid (And.intro hu1 hu2)
      have HAC := Lib.hid hacc
      have HG := Lib.hid hg
      have HLB : Hid ((((l.take j).map fun x => [x.1, x.2]).length + 1) * 24 ≤ 140737488355328) := Lib.hid (by have := HB.out; simp; omega)
      obtain ⟨y, hy⟩ : ∃ y, y = l[j] := ⟨_, rfl⟩
      rw [← hy] at HSN HU hc0 hc1'
      obtain ⟨wa, hwa⟩ : ∃ y2, y2 = wr.alloc (Obj.cells #[.int .u64 y.1, .int .u64 y.2] 44) := ⟨_, rfl⟩
      have HGA : Hid (wr.grownBy wa none) := Lib.hid (by rw [hwa]; exact World.grownBy_alloc _ _ none)
      have hbx : Bk wa wr.heap.size 44 #[.int .u64 y.1, .int .u64 y.2] := by rw [hwa]; exact Bk.new _ _ _
      have HC := Lib.hid (pairsOne_any y wa HU.out)
      obtain ⟨ya, yb⟩ := y
      simp only at hc0 hc1' HC HSN hwa hbx
      have d0 := hbx.cell 0
      have d1 := hbx.cell 1
      simp at d0 d1
      clear hacc hg HX hu1 hu2 e2 hy hbx
      generalize l.length = n at *
      go_wp2_with fail
      rw [← hwa]
      clear hwa
      refine HC.out.mono ?_
      rintro e w1 ⟨v1, rfl, hs1, hg1⟩
      obtain ⟨A1, c1, e1, _, _⟩ := hs1.form
      subst e1
      have HG1 : Hid (w.grownBy w1 none) := Lib.hid (HG.out.trans (HGA.out.trans hg1))
      have HAC1 := Lib.hid (HAC.out.kept (HGA.out.trans hg1))
      have HREP : Hid ((encS encU).rep (fun g => w.heap.size ≤ g ∧ some g ≠ u5.ownBlock) w1 [.slice A1 2 c1] [ya, yb]) := Lib.hid ⟨_, rfl, hs1.more fun g _ h => ⟨Nat.le_trans (HG.out.trans HGA.out).size h, fun e => by have h1 := (HAC.out.lt g e.symm).2; have h2 := HGA.out.size; omega⟩⟩
      clear hs1 hg1 d0 d1 hc0 hc1'
      go_wp2_with (at_builtin; refine wpList_pushG rfl (.tmp 14) (.tmp 18) rfl (E := encS encU) (y := [ya, yb]) el_nums HG1.out HAC1.out (fun _ h => h) HREP.out HLB.out rfl rfl ?_)
      intro v2 w2 hacc2 hg2 hgo
      have HFIN : Hid (Acc (encS encU) w.heap.size 35 (fun g => w.heap.size ≤ g) w2 v2 ((l.take (j + 1)).map fun x => [x.1, x.2]) ∧ w.grownBy w2 none) := Lib.hid ⟨by rw [HSN.out]; simpa using hacc2, hg2⟩
      clear hacc2 hg2 hgo
      go_wp2_with fail
      go_roundg m
      case measure => omega
      case rel => exact ⟨j + 1, by omega, by go_num, HFIN⟩
set_option maxHeartbeats 1000000 in
theorem flatU_any (v : Value) (ls : List (List Int)) (X : Nat → Prop) (w : World) (h : Sl (encS encU) X w v ls) (hb : ls.length ≤ 1000) (hb2 : ∀ x ∈ ls, x.length ≤ 1000) :
    Calls Try.prog 39 #[v] w (Gives encU (fun g => w.heap.size ≤ g) w ls.flatten) := by
  have H := Lib.hid h
  have HB2 := Lib.hid hb2
  have HB := Lib.hid hb
  obtain ⟨A, c, rfl, hc1, hc2⟩ := h.form
  have HLN : Hid (∀ j, (ls.take j).flatten.length ≤ j * 1000) := Lib.hid (fun j => by
    induction j with
    | zero => simp
    | succ j ih =>
      rcases Nat.lt_or_ge j ls.length with h | h
      · rw [List.take_succ_eq_append_getElem h, List.flatten_append, List.length_append]
        have h1 := hb2 _ (List.getElem_mem h)
        have h2 : [ls[j]].flatten.length = ls[j].length := by simp
        rw [h2, Nat.add_mul]
        exact Nat.add_le_add ih (by rw [Nat.one_mul]; exact h1)
      · rw [List.take_of_length_le (show ls.length ≤ j + 1 from Nat.le_succ_of_le h)]
        rw [List.take_of_length_le h] at ih
        exact Nat.le_trans ih (Nat.mul_le_mul_right _ (Nat.le_succ j)))
  clear h hb hb2
  go_enter Try.func39, Try.ntmps39
  go_wp2_with fail
  go_loopg [3, 8] ls.length (fun g s3 s8 wx => ∃ j : Nat, j + g = ls.length ∧ s8 = .int .i64 j ∧ Hid (Acc encU w.heap.size 22 (fun g => w.heap.size ≤ g) wx s3 (ls.take j).flatten ∧ w.grownBy wx none))
  case atStart => exact ⟨0, by omega, rfl, Lib.hid ⟨Acc.nil _ _ _ _ _, World.grownBy.refl _ none⟩⟩
  case round =>
    obtain ⟨j, hj, rfl, HX⟩ := hrel
    cases gk with
    | zero =>
      obtain rfl : j = ls.length := by omega
      have HR : Hid (Sl encU (fun g => w.heap.size ≤ g) wr u3 ls.flatten ∧ w.grownBy wr none) := Lib.hid ⟨by have := HX.out.1.sl; rwa [List.take_length] at this, HX.out.2⟩
      clear HX
      go_wp2
      go_ret
      exact ⟨_, rfl, HR.out.1, HR.out.2⟩
    | succ m =>
      have hjn : (j : Int) < (ls.length : Int) := by omega
      have hjN : j < ls.length := by omega
      obtain ⟨hacc, hg⟩ := HX.out
      obtain ⟨g, o, c', u, e, _, _, hcu, hu⟩ := (H.out.kept hg).atS hjN
      injection e with e1 e2 e3
      subst e1 e3
      have HSN : Hid ((ls.take (j + 1)).flatten = (ls.take j).flatten ++ ls[j]) := Lib.hid (by rw [List.take_succ_eq_append_getElem hjN, List.flatten_append]; simp)
      have HAC := Lib.hid hacc
      have HG := Lib.hid hg
      obtain ⟨A1, c1, e1, _, _⟩ := hu.form
      have HLB : Hid (((ls.take j).flatten.length + ls[j].length) * 8 ≤ 140737488355328) := Lib.hid (by have h1 := HLN.out j; have h2 := HB.out; have h3 := HB2.out _ (List.getElem_mem hjN); omega)
      have HSZ : Hid (w.heap.size ≤ wr.heap.size) := Lib.hid hg.size
      have HU := Lib.hid hu
      clear hacc hg HX hu e2
      obtain ⟨y, hy⟩ : ∃ y, y = ls[j] := ⟨_, rfl⟩
      rw [← hy] at e1 HSN HLB HU
      clear hy
      obtain ⟨ny, hny⟩ : ∃ y2, y2 = y.length := ⟨_, rfl⟩
      rw [← hny] at e1
      subst e1
      clear hny
      go_wp2_with (at_builtin; refine wpList_apps rfl (.tmp 12) (.tmp 13) rfl (E := encU) el_u64 HAC.out rfl rfl HU.out (fun _ _ h => h) HLB.out HSZ.out (fun _ h => Nat.le_trans HSZ.out h) ?_)
      intro v2 w2 hacc2 hg2 hm2
      have HFIN : Hid (Acc encU w.heap.size 22 (fun g => w.heap.size ≤ g) w2 v2 (ls.take (j + 1)).flatten ∧ w.grownBy w2 none) := Lib.hid ⟨by rw [HSN.out]; exact hacc2, grown_up HG.out hg2 (fun k e => (HAC.out.lt k e).1)⟩
      clear hacc2 hg2 hm2
      go_wp2_with fail
      go_roundg m
      case measure => omega
      case rel => exact ⟨j + 1, by omega, by go_num, HFIN⟩
theorem dpairs_any (v : Value) (l : List (Int × Int)) (X : Nat → Prop) (w : World) (h : Sl encP X w v l) (hb : l.length ≤ 1000) :
    Calls Try.prog 17 #[v] w (Gives encU (fun g => w.heap.size ≤ g) w (l.map fun x => [x.1, x.2]).flatten) := by
  have HE := Lib.hid (eachPairs_any v l X w h hb)
  have HF := Lib.hid (fun u Y w' (hs : Sl (encS encU) Y w' u (l.map fun x => [x.1, x.2])) => flatU_any u _ Y w' hs (by simpa using hb) (fun x hx => by obtain ⟨y, _, rfl⟩ := List.mem_map.1 hx; simp))
  obtain ⟨A, c, rfl, _, _⟩ := h.form
  clear h
  go_enter Try.func17, Try.ntmps17
  go_wp2_with fail
  refine HE.out.mono ?_
  rintro e w1 ⟨v1, rfl, hs1, hg1⟩
  have HG1 := Lib.hid hg1
  have HS1 := Lib.hid hs1
  clear hs1 hg1
  go_wp2_with fail
  refine (HF.out _ _ _ HS1.out).mono ?_
  rintro e w2 ⟨v2, rfl, hs2, hg2⟩
  have HR : Hid (Sl encU (fun g => w.heap.size ≤ g) w2 v2 (l.map fun x => [x.1, x.2]).flatten ∧ w.grownBy w2 none) := Lib.hid ⟨hs2.more fun g _ h => Nat.le_trans HG1.out.size h, HG1.out.trans hg2⟩
  clear hs2 hg2
  go_wp2
  go_ret
  exact ⟨_, rfl, HR.out⟩
end Go.Proofs.Ytphbcfpiklmmeaa

namespace Go.Proofs.Ytphbcfpiklmmeaa
open Go Go.RowKit

set_option maxHeartbeats 1000000 in
theorem flatP_any (v : Value) (ls : List (List (Int × Int))) (X : Nat → Prop) (w : World) (h : Sl (encS encP) X w v ls) (hb : ls.length ≤ 1000) (hb2 : ∀ x ∈ ls, x.length ≤ 1000) :
    Calls Try.prog 41 #[v] w (Gives encP (fun g => w.heap.size ≤ g) w ls.flatten) := by
  have H := Lib.hid h
  have HB2 := Lib.hid hb2
  have HB := Lib.hid hb
  obtain ⟨A, c, rfl, hc1, hc2⟩ := h.form
  have HLN : Hid (∀ j, (ls.take j).flatten.length ≤ j * 1000) := Lib.hid (fun j => by
    induction j with
    | zero => simp
    | succ j ih =>
      rcases Nat.lt_or_ge j ls.length with h | h
      · rw [List.take_succ_eq_append_getElem h, List.flatten_append, List.length_append]
        have h1 := hb2 _ (List.getElem_mem h)
        have h2 : [ls[j]].flatten.length = ls[j].length := by simp
        rw [h2, Nat.add_mul]
        exact Nat.add_le_add ih (by rw [Nat.one_mul]; exact h1)
      · rw [List.take_of_length_le (show ls.length ≤ j + 1 from Nat.le_succ_of_le h)]
        rw [List.take_of_length_le h] at ih
        exact Nat.le_trans ih (Nat.mul_le_mul_right _ (Nat.le_succ j)))
  clear h hb hb2
  go_enter Try.func41, Try.ntmps41
  go_wp2_with fail
  go_loopg [3, 8] ls.length (fun g s3 s8 wx => ∃ j : Nat, j + g = ls.length ∧ s8 = .int .i64 j ∧ Hid (Acc encP w.heap.size 44 (fun g => w.heap.size ≤ g) wx s3 (ls.take j).flatten ∧ w.grownBy wx none))
  case atStart => exact ⟨0, by omega, rfl, Lib.hid ⟨Acc.nil _ _ _ _ _, World.grownBy.refl _ none⟩⟩
  case round =>
    obtain ⟨j, hj, rfl, HX⟩ := hrel
    cases gk with
    | zero =>
      obtain rfl : j = ls.length := by omega
      have HR : Hid (Sl encP (fun g => w.heap.size ≤ g) wr u3 ls.flatten ∧ w.grownBy wr none) := Lib.hid ⟨by have := HX.out.1.sl; rwa [List.take_length] at this, HX.out.2⟩
      clear HX
      go_wp2
      go_ret
      exact ⟨_, rfl, HR.out.1, HR.out.2⟩
    | succ m =>
      have hjn : (j : Int) < (ls.length : Int) := by omega
      have hjN : j < ls.length := by omega
      obtain ⟨hacc, hg⟩ := HX.out
      obtain ⟨g, o, c', u, e, _, _, hcu, hu⟩ := (H.out.kept hg).atS hjN
      injection e with e1 e2 e3
      subst e1 e3
      have HSN : Hid ((ls.take (j + 1)).flatten = (ls.take j).flatten ++ ls[j]) := Lib.hid (by rw [List.take_succ_eq_append_getElem hjN, List.flatten_append]; simp)
      have HAC := Lib.hid hacc
      have HG := Lib.hid hg
      obtain ⟨A1, c1, e1, _, _⟩ := hu.form
      have HLB : Hid (((ls.take j).flatten.length + ls[j].length) * 16 ≤ 140737488355328) := Lib.hid (by have h1 := HLN.out j; have h2 := HB.out; have h3 := HB2.out _ (List.getElem_mem hjN); omega)
      have HSZ : Hid (w.heap.size ≤ wr.heap.size) := Lib.hid hg.size
      have HU := Lib.hid hu
      clear hacc hg HX hu e2
      obtain ⟨y, hy⟩ : ∃ y, y = ls[j] := ⟨_, rfl⟩
      rw [← hy] at e1 HSN HLB HU
      clear hy
      obtain ⟨ny, hny⟩ : ∃ y2, y2 = y.length := ⟨_, rfl⟩
      rw [← hny] at e1
      subst e1
      clear hny
      go_wp2_with (at_builtin; refine wpList_apps rfl (.tmp 12) (.tmp 13) rfl (E := encP) el_pair HAC.out rfl rfl HU.out (fun _ _ h => h) HLB.out HSZ.out (fun _ h => Nat.le_trans HSZ.out h) ?_)
      intro v2 w2 hacc2 hg2 hm2
      have HFIN : Hid (Acc encP w.heap.size 44 (fun g => w.heap.size ≤ g) w2 v2 (ls.take (j + 1)).flatten ∧ w.grownBy w2 none) := Lib.hid ⟨by rw [HSN.out]; exact hacc2, grown_up HG.out hg2 (fun k e => (HAC.out.lt k e).1)⟩
      clear hacc2 hg2 hm2
      go_wp2_with fail
      go_roundg m
      case measure => omega
      case rel => exact ⟨j + 1, by omega, by go_num, HFIN⟩
set_option maxHeartbeats 1000000 in
theorem flatR_any (v : Value) (ls : List (List (List Int))) (X : Nat → Prop) (w : World) (h : Sl (encS (encS encU)) X w v ls) (hb : ls.length ≤ 1000) (hb2 : ∀ x ∈ ls, x.length ≤ 1000) :
    Calls Try.prog 40 #[v] w (Gives (encS encU) TT w ls.flatten) := by
  have H := Lib.hid h.bounded
  have HB2 := Lib.hid hb2
  have HB := Lib.hid hb
  obtain ⟨A, c, rfl, hc1, hc2⟩ := h.form
  have HLN : Hid (∀ j, (ls.take j).flatten.length ≤ j * 1000) := Lib.hid (fun j => by
    induction j with
    | zero => simp
    | succ j ih =>
      rcases Nat.lt_or_ge j ls.length with h | h
      · rw [List.take_succ_eq_append_getElem h, List.flatten_append, List.length_append]
        have h1 := hb2 _ (List.getElem_mem h)
        have h2 : [ls[j]].flatten.length = ls[j].length := by simp
        rw [h2, Nat.add_mul]
        exact Nat.add_le_add ih (by rw [Nat.one_mul]; exact h1)
      · rw [List.take_of_length_le (show ls.length ≤ j + 1 from Nat.le_succ_of_le h)]
        rw [List.take_of_length_le h] at ih
        exact Nat.le_trans ih (Nat.mul_le_mul_right _ (Nat.le_succ j)))
  clear h hb hb2
  go_enter Try.func40, Try.ntmps40
  go_wp2_with fail
  go_loopg [3, 8] ls.length (fun g s3 s8 wx => ∃ j : Nat, j + g = ls.length ∧ s8 = .int .i64 j ∧ Hid (Acc (encS encU) w.heap.size 35 TT wx s3 (ls.take j).flatten ∧ w.grownBy wx none))
  case atStart => exact ⟨0, by omega, rfl, Lib.hid ⟨Acc.nil _ _ _ _ _, World.grownBy.refl _ none⟩⟩
  case round =>
    obtain ⟨j, hj, rfl, HX⟩ := hrel
    cases gk with
    | zero =>
      obtain rfl : j = ls.length := by omega
      have HR : Hid (Sl (encS encU) TT wr u3 ls.flatten ∧ w.grownBy wr none) := Lib.hid ⟨by have := HX.out.1.sl; rwa [List.take_length] at this, HX.out.2⟩
      clear HX
      go_wp2
      go_ret
      exact ⟨_, rfl, HR.out.1, HR.out.2⟩
    | succ m =>
      have hjn : (j : Int) < (ls.length : Int) := by omega
      have hjN : j < ls.length := by omega
      obtain ⟨hacc, hg⟩ := HX.out
      obtain ⟨g, o, c', u, e, _, _, hcu, hu⟩ := (H.out.kept hg).atS hjN
      injection e with e1 e2 e3
      subst e1 e3
      have HSN : Hid ((ls.take (j + 1)).flatten = (ls.take j).flatten ++ ls[j]) := Lib.hid (by rw [List.take_succ_eq_append_getElem hjN, List.flatten_append]; simp)
      have HAC := Lib.hid hacc
      have HG := Lib.hid hg
      obtain ⟨A1, c1, e1, _, _⟩ := hu.form
      have HLB : Hid (((ls.take j).flatten.length + ls[j].length) * 24 ≤ 140737488355328) := Lib.hid (by have h1 := HLN.out j; have h2 := HB.out; have h3 := HB2.out _ (List.getElem_mem hjN); omega)
      have HSZ : Hid (w.heap.size ≤ wr.heap.size) := Lib.hid hg.size
      have HU := Lib.hid hu
      have HNO : Hid (∀ cs y, (encS encU).rep (fun g => X g ∧ g < w.heap.size) wr cs y → (encS encU).rep (fun g => TT g ∧ some g ≠ u3.ownBlock) wr cs y) := Lib.hid (fun cs y h => (encS encU).more h fun g _ hg => ⟨trivial, fun e => by have := (hacc.lt g e.symm).1; have := hg.2; omega⟩)
      clear hacc hg HX hu e2
      obtain ⟨y, hy⟩ : ∃ y, y = ls[j] := ⟨_, rfl⟩
      rw [← hy] at e1 HSN HLB HU
      clear hy
      obtain ⟨ny, hny⟩ : ∃ y2, y2 = y.length := ⟨_, rfl⟩
      rw [← hny] at e1
      subst e1
      clear hny
      go_wp2_with (at_builtin; refine wpList_apps rfl (.tmp 12) (.tmp 13) rfl (E := encS encU) el_nums HAC.out rfl rfl HU.out HNO.out HLB.out HSZ.out (fun _ _ => trivial) ?_)
      intro v2 w2 hacc2 hg2 hm2
      have HFIN : Hid (Acc (encS encU) w.heap.size 35 TT w2 v2 (ls.take (j + 1)).flatten ∧ w.grownBy w2 none) := Lib.hid ⟨by rw [HSN.out]; exact hacc2, grown_up HG.out hg2 (fun k e => (HAC.out.lt k e).1)⟩
      clear hacc2 hg2 hm2
      go_wp2_with fail
      go_roundg m
      case measure => omega
      case rel => exact ⟨j + 1, by omega, by go_num, HFIN⟩
/-- The numbers of pairs; of a matrix and two lists. -/
def prsN (l : List (Int × Int)) : List Int := (l.map fun x => [x.1, x.2]).flatten
def packI (M : List (List (List Int))) (a b : List (List (Int × Int))) : List Int := [M.flatten.flatten, prsN a.flatten, prsN b.flatten].flatten
theorem dflat_any (v : Value) (ls : List (List Int)) (X : Nat → Prop) (w : World) (h : Sl (encS encU) X w v ls) (hb : ls.length ≤ 1000) (hb2 : ∀ x ∈ ls, x.length ≤ 1000) :
    Calls Try.prog 19 #[v] w (Gives encU (fun g => w.heap.size ≤ g) w ls.flatten) := by
  have HF := Lib.hid (flatU_any v ls X w h hb hb2)
  obtain ⟨A, c, rfl, _, _⟩ := h.form
  clear h hb hb2
  go_enter Try.func19, Try.ntmps19
  go_wp2_with fail
  refine HF.out.mono ?_
  rintro e w1 ⟨v1, rfl, hs1, hg1⟩
  have HR : Hid (Sl encU (fun g => w.heap.size ≤ g) w1 v1 ls.flatten ∧ w.grownBy w1 none) := Lib.hid ⟨hs1, hg1⟩
  clear hs1 hg1 HF
  go_wp2
  go_ret
  exact ⟨_, rfl, HR.out⟩
theorem flat_le {α : Type} (n : Nat) : ∀ (ls : List (List α)), (∀ x ∈ ls, x.length ≤ n) → ls.flatten.length ≤ ls.length * n
  | [], _ => by simp
  | x :: ls, h => by
    have h1 := flat_le n ls fun y hy => h y (List.mem_cons_of_mem _ hy)
    have h2 := h x List.mem_cons_self
    rw [List.flatten_cons, List.length_append, List.length_cons, Nat.add_mul, Nat.one_mul]
    omega
theorem prsN_len (l : List (Int × Int)) : (prsN l).length = 2 * l.length := by
  induction l with
  | nil => rfl
  | cons x l ih =>
    have : prsN (x :: l) = [x.1, x.2] ++ prsN l := rfl
    rw [this, List.length_append, ih, List.length_cons]
    simp
    omega
end Go.Proofs.Ytphbcfpiklmmeaa

namespace Go.Proofs.Ytphbcfpiklmmeaa
open Go Go.RowKit Go.Shelf

theorem flat_snoc {α : Type} (l : List (List α)) (j : Nat) (h : j < l.length) : (l.take (j + 1)).flatten = (l.take j).flatten ++ l[j] := by
  rw [List.take_succ_eq_append_getElem h, List.flatten_append]
  simp
theorem flatT_le {α : Type} (n : Nat) (l : List (List α)) (j : Nat) (h : ∀ x ∈ l, x.length ≤ n) (hl : l.length ≤ n) : (l.take j).flatten.length ≤ n * n :=
  Nat.le_trans (flat_le n (l.take j) fun x hx => h x (List.mem_of_mem_take hx)) (Nat.mul_le_mul_right n (by rw [List.length_take]; omega))
theorem prsN_app (a b : List (Int × Int)) : prsN (a ++ b) = prsN a ++ prsN b := by simp [prsN]
theorem prsN_flat : ∀ a : List (List (Int × Int)), (a.map prsN).flatten = prsN a.flatten
  | [] => rfl
  | x :: a => by rw [List.map_cons, List.flatten_cons, List.flatten_cons, prsN_app, prsN_flat a]
theorem prsN_snoc (l : List (Int × Int)) (j : Nat) (h : j < l.length) : prsN (l.take (j + 1)) = prsN (l.take j) ++ [l[j].1, l[j].2] := by
  rw [List.take_succ_eq_append_getElem h, prsN_app]
  rfl
set_option maxRecDepth 100000 in
set_option maxHeartbeats 1000000 in
theorem rflat_any (v : Value) (ls : List (List Int)) (X : Nat → Prop) (w : World) (h : Sl (encS encU) X w v ls) (hb : ls.length ≤ 1000) (hb2 : ∀ x ∈ ls, x.length ≤ 1000) :
    Calls Try.prog 20 #[v] w (Gives encU (fun g => w.heap.size ≤ g) w ls.flatten) := by
  have H := Lib.hid h
  have HFL := Lib.hid (fun j => flatT_le 1000 ls j hb2 hb)
  have HB2 := Lib.hid hb2
  obtain ⟨A, c, rfl, hc1, hc2⟩ := h.form
  clear h hb2
  go_enter Try.func20, Try.ntmps20
  go_wp2_with fail
  go_loopg [3, 4] ls.length (fun g s3 s4 wx => ∃ j : Nat, j + g = ls.length ∧ s4 = .int .i64 j ∧ Hid (Acc encU w.heap.size 22 (fun g => w.heap.size ≤ g) wx s3 (ls.take j).flatten ∧ w.grownBy wx none))
  case atStart => exact ⟨0, by omega, rfl, Lib.hid ⟨Acc.nil _ _ _ _ _, World.grownBy.refl _ _⟩⟩
  case round =>
    obtain ⟨j, hj, rfl, HX⟩ := hrel
    cases gk with
    | zero =>
      obtain rfl : j = ls.length := by omega
      have HR : Hid (Sl encU (fun g => w.heap.size ≤ g) wr u3 ls.flatten ∧ w.grownBy wr none) := Lib.hid ⟨by have := HX.out.1.sl; rwa [List.take_length] at this, HX.out.2⟩
      clear HX
      go_wp2
      go_ret
      exact ⟨_, rfl, HR.out⟩
    | succ m =>
      have hjn : (j : Int) < (ls.length : Int) := by omega
      have hj0 : (0 : Int) ≤ (j : Int) := Int.natCast_nonneg j
      have hjN : j < ls.length := by omega
      obtain ⟨g, o, c', u, e, _, _, hcu, hsu⟩ := (H.out.kept HX.out.2).atS hjN
      injection e with e1 e2 e3
      subst e1 e3
      obtain ⟨Ac, nc, cc, rfl⟩ := hsu.shape
      have HSN := Lib.hid (flat_snoc ls j hjN)
      have HLB : Hid (((ls.take j).flatten.length + ls[j].length) * 8 ≤ 140737488355328) := Lib.hid (by have := HFL.out j; have := HB2.out _ (List.getElem_mem hjN); omega)
      have HSU := Lib.hid hsu
      have HA := Lib.hid HX.out.1
      have HG := Lib.hid HX.out.2
      obtain ⟨y, hy⟩ : ∃ y, y = ls[j] := ⟨_, rfl⟩
      rw [← hy] at HSN HLB HSU
      clear hsu e2 HX hy
      go_wp2_with (at_builtin; refine wpList_apps rfl (.tmp 11) (.tmp 15) rfl (E := encU) el_u64 HA.out rfl rfl HSU.out (fun _ _ h => h) HLB.out HG.out.size (fun g hg => Nat.le_trans HG.out.size hg) ?_)
      intro v3 w3 ha hg hm
      have HFIN : Hid (Acc encU w.heap.size 22 (fun g => w.heap.size ≤ g) w3 v3 (ls.take (j + 1)).flatten ∧ w.grownBy w3 none) := Lib.hid ⟨by rw [HSN.out]; exact ha, grown_up HG.out hg (fun g he => (HA.out.lt g he).1)⟩
      clear ha hg hm
      go_wp2_with fail
      go_roundg m
      case measure => omega
      case rel => exact ⟨j + 1, by omega, by go_num, HFIN⟩
set_option maxRecDepth 100000 in
set_option maxHeartbeats 1000000 in
theorem rprs_any (v : Value) (l : List (Int × Int)) (X : Nat → Prop) (w : World) (h : Sl encP X w v l) (hb : l.length ≤ 100000) :
    Calls Try.prog 18 #[v] w (Gives encU (fun g => w.heap.size ≤ g) w (prsN l)) := by
  have H := Lib.hid h
  obtain ⟨A, c, rfl, hc1, hc2⟩ := h.form
  clear h
  go_enter Try.func18, Try.ntmps18
  go_wp2_with fail
  go_loopg [3, 4] l.length (fun g s3 s4 wx => ∃ j : Nat, j + g = l.length ∧ s4 = .int .i64 j ∧ Hid (Acc encU w.heap.size 22 (fun g => w.heap.size ≤ g) wx s3 (prsN (l.take j)) ∧ w.grownBy wx none))
  case atStart => exact ⟨0, by omega, rfl, Lib.hid ⟨Acc.nil _ _ _ _ _, World.grownBy.refl _ _⟩⟩
  case round =>
    obtain ⟨j, hj, rfl, HX⟩ := hrel
    cases gk with
    | zero =>
      obtain rfl : j = l.length := by omega
      have HR : Hid (Sl encU (fun g => w.heap.size ≤ g) wr u3 (prsN l) ∧ w.grownBy wr none) := Lib.hid ⟨by have := HX.out.1.sl; rwa [List.take_length] at this, HX.out.2⟩
      clear HX
      go_wp2
      go_ret
      exact ⟨_, rfl, HR.out⟩
    | succ m =>
      have hjn : (j : Int) < (l.length : Int) := by omega
      have hj0 : (0 : Int) ≤ (j : Int) := Int.natCast_nonneg j
      have hjN : j < l.length := by omega
      obtain ⟨g, o, c', e, _, _, hc0, hc1', hu0, hu1⟩ := (H.out.kept HX.out.2).atP hjN
      injection e with e1 e2 e3
      subst e1 e3
      have HSN := Lib.hid (prsN_snoc l j hjN)
      have HU := Lib.hid (And.intro hu0 hu1)
      obtain ⟨x, hx⟩ : ∃ y, y = l[j] := ⟨_, rfl⟩
      rw [← hx] at hc0 hc1' HSN HU
      obtain ⟨x1, x2⟩ := x
      simp only at hc0 hc1'
      have HLB : Hid (((prsN (l.take j)).length + [x1, x2].length) * 8 ≤ 140737488355328) := Lib.hid (by rw [prsN_len]; simp; omega)
      have HLD : Hid (∀ W, wr.drew.grownBy W none → W.cell? ⟨g, o + j * 2, none⟩ = some (.int .u64 x1) ∧ W.cell? ⟨g, o + j * 2 + 1, none⟩ = some (.int .u64 x2)) := Lib.hid (fun W hW => ⟨cellK hc0 ((grown_drewN' wr 1).trans hW) (by simp), cellK hc1' ((grown_drewN' wr 1).trans hW) (by simp)⟩)
      obtain ⟨A3, n3, c3, rfl⟩ := HX.out.1.sl.shape
      have HAw := Lib.hid (HX.out.1.kept (grown_drewN' wr 1))
      have HGw : Hid (w.grownBy wr.drew none) := Lib.hid (HX.out.2.trans (grown_drewN' wr 1))
      clear hu0 hu1 e2 HX hx hc0 hc1'
      go_upto_region 5 with (fail)
      refine wp_region_mono 12 (by kernel_rfl) (by kernel_rfl) ?_
      -- op 0 (slot 11): move
      refine MonoR.step (Pv.eq (.slice A3 n3 c3)) [] (by kernel_rfl) (fun w' hw' => ?_) ?_
      · refine ask_do rfl fun K hK => ?_
        go_simp
        exact hK _ _ rfl rfl (World.grownBy.refl _ none)
      -- op 1 (slot 12): move
      refine MonoR.step (Pv.eq (.slice (some ⟨g, o, none⟩) l.length c)) [] (by kernel_rfl) (fun w' hw' => ?_) ?_
      · refine ask_do rfl fun K hK => ?_
        go_simp
        exact hK _ _ rfl rfl (World.grownBy.refl _ none)
      -- op 2 (slot 13): move
      refine MonoR.step (Pv.eq (.int .i64 (j : Int))) [] (by kernel_rfl) (fun w' hw' => ?_) ?_
      · refine ask_do rfl fun K hK => ?_
        go_simp
        exact hK _ _ rfl rfl (World.grownBy.refl _ none)
      -- op 3 (slot 14): indexAddr
      refine MonoR.step (Pv.eq (.pointer (some ⟨g, o + j * 2, none⟩))) [(1, 12), (2, 13)] (by kernel_rfl) (fun w' hw' => ?_) ?_
      · intro x12 h12
        intro x13 h13
        have e12 : x12 = .slice (some ⟨g, o, none⟩) l.length c := h12
        clear h12
        subst e12
        have e13 : x13 = .int .i64 (j : Int) := h13
        clear h13
        subst e13
        refine ask_do rfl fun K hK => ?_
        go_simp
        exact hK _ _ rfl rfl (World.grownBy.refl _ none)
      -- op 4 (slot 15): fieldAddr
      refine MonoR.step (Pv.eq (.pointer (some ⟨g, o + j * 2, none⟩))) [(3, 14)] (by kernel_rfl) (fun w' hw' => ?_) ?_
      · intro x14 h14
        have e14 : x14 = .pointer (some ⟨g, o + j * 2, none⟩) := h14
        clear h14
        subst e14
        refine ask_do rfl fun K hK => ?_
        go_simp
        exact hK _ _ rfl rfl (World.grownBy.refl _ none)
      -- op 5 (slot 16): load
      refine MonoR.step (Pv.eq (.int .u64 x1)) [(4, 15)] (by kernel_rfl) (fun w' hw' => ?_) ?_
      · intro x15 h15
        have e15 : x15 = .pointer (some ⟨g, o + j * 2, none⟩) := h15
        clear h15
        subst e15
        refine ask_do rfl fun K hK => ?_
        obtain ⟨q0, q1⟩ := HLD.out w' hw'
        go_simp
        exact hK _ _ rfl rfl (World.grownBy.refl _ none)
      -- op 6 (slot 17): move
      refine MonoR.step (Pv.eq (.slice (some ⟨g, o, none⟩) l.length c)) [] (by kernel_rfl) (fun w' hw' => ?_) ?_
      · refine ask_do rfl fun K hK => ?_
        go_simp
        exact hK _ _ rfl rfl (World.grownBy.refl _ none)
      -- op 7 (slot 18): move
      refine MonoR.step (Pv.eq (.int .i64 (j : Int))) [] (by kernel_rfl) (fun w' hw' => ?_) ?_
      · refine ask_do rfl fun K hK => ?_
        go_simp
        exact hK _ _ rfl rfl (World.grownBy.refl _ none)
      -- op 8 (slot 19): indexAddr
      refine MonoR.step (Pv.eq (.pointer (some ⟨g, o + j * 2, none⟩))) [(6, 17), (7, 18)] (by kernel_rfl) (fun w' hw' => ?_) ?_
      · intro x17 h17
        intro x18 h18
        have e17 : x17 = .slice (some ⟨g, o, none⟩) l.length c := h17
        clear h17
        subst e17
        have e18 : x18 = .int .i64 (j : Int) := h18
        clear h18
        subst e18
        refine ask_do rfl fun K hK => ?_
        go_simp
        exact hK _ _ rfl rfl (World.grownBy.refl _ none)
      -- op 9 (slot 20): fieldAddr
      refine MonoR.step (Pv.eq (.pointer (some ⟨g, o + j * 2 + 1, none⟩))) [(8, 19)] (by kernel_rfl) (fun w' hw' => ?_) ?_
      · intro x19 h19
        have e19 : x19 = .pointer (some ⟨g, o + j * 2, none⟩) := h19
        clear h19
        subst e19
        refine ask_do rfl fun K hK => ?_
        go_simp
        exact hK _ _ rfl rfl (World.grownBy.refl _ none)
      -- op 10 (slot 21): load
      refine MonoR.step (Pv.eq (.int .u64 x2)) [(9, 20)] (by kernel_rfl) (fun w' hw' => ?_) ?_
      · intro x20 h20
        have e20 : x20 = .pointer (some ⟨g, o + j * 2 + 1, none⟩) := h20
        clear h20
        subst e20
        refine ask_do rfl fun K hK => ?_
        obtain ⟨q0, q1⟩ := HLD.out w' hw'
        go_simp
        exact hK _ _ rfl rfl (World.grownBy.refl _ none)
      -- op 11 (slot 22): buildSlice
      refine MonoR.step (Pv.sl (encU) TT [x1, x2]) [(5, 16), (10, 21)] (by kernel_rfl) (fun w' hw' => ?_) ?_
      · intro x16 h16
        intro x21 h21
        have e16 : x16 = .int .u64 x1 := h16
        clear h16
        subst e16
        have e21 : x21 = .int .u64 x2 := h21
        clear h21
        subst e21
        refine ask_do rfl fun K hK => ?_
        go_simp
        exact hK _ _ rfl (Sl.build [[.int .u64 x1], [.int .u64 x2]] rfl ⟨⟨rfl, HU.out.1⟩, ⟨rfl, HU.out.2⟩, trivial⟩ rfl (by decide)) (World.grownBy_alloc w' _ none)
      
      intro w5 hw5
      intro y0 k0 y1 k1 y2 k2 y3 k3 y4 k4 y5 k5 y6 k6 y7 k7 y8 k8 y9 k9 y10 k10 y11 h11
      show wpList Try.prog _ _ _ _ w5
      simp only [Act.put, List.setIfInBounds_toArray, List.set_cons_zero, List.set_cons_succ]
      have e0 : y0 = .slice A3 n3 c3 := k0
      subst e0
      obtain ⟨A11, c11, e11, _, _⟩ := h11.form
      have e11 : y11 = .slice A11 2 c11 := e11
      subst e11
      have HA5 := Lib.hid (HAw.out.kept hw5)
      have HG5 : Hid (w.grownBy w5 none) := Lib.hid (HGw.out.trans hw5)
      have HS11 : Hid (Sl encU TT w5 (.slice A11 2 c11) [x1, x2]) := Lib.hid h11
      clear k0 k1 k2 k3 k4 k5 k6 k7 k8 k9 k10 h11 hw5
      refine wpList_apps rfl (.tmp 11) (.tmp 22) rfl (E := encU) el_u64 HA5.out rfl rfl HS11.out (fun _ _ h => h) HLB.out HG5.out.size (fun g hg => Nat.le_trans HG5.out.size hg) ?_
      intro v6 w6 ha hgr _
      have HFIN : Hid (Acc encU w.heap.size 22 (fun g => w.heap.size ≤ g) w6 v6 (prsN (l.take (j + 1))) ∧ w.grownBy w6 none) := Lib.hid ⟨by rw [HSN.out]; exact ha, grown_up HG5.out hgr (fun g he => (HA5.out.lt g he).1)⟩
      clear ha hgr
      go_wp2_with fail
      go_roundg m
      case measure => omega
      case rel => exact ⟨j + 1, by omega, by go_num, HFIN⟩
theorem flatm_snoc {α β : Type} (f : α → List β) (l : List α) (j : Nat) (h : j < l.length) : ((l.map f).take (j + 1)).flatten = ((l.map f).take j).flatten ++ f l[j] := by
  rw [flat_snoc _ j (by simpa using h)]
  simp
/-- What Pack takes in is small. -/
def PackOk (M : List (List (List Int))) (a b : List (List (Int × Int))) : Prop :=
  M.length ≤ 300 ∧ (∀ x ∈ M, x.length ≤ 300) ∧ M.flatten.length ≤ 300 ∧ (∀ y ∈ M.flatten, y.length ≤ 300) ∧ M.flatten.flatten.length ≤ 300 ∧ a.length ≤ 300 ∧ (∀ x ∈ a, x.length ≤ 300) ∧ a.flatten.length ≤ 300 ∧ b.length ≤ 300 ∧ (∀ x ∈ b, x.length ≤ 300) ∧ b.flatten.length ≤ 300
theorem flat_part {α : Type} (l : List (List α)) (j : Nat) : (l.take j).flatten.length ≤ l.flatten.length := by
  have h : l.flatten = (l.take j).flatten ++ (l.drop j).flatten := by rw [← List.flatten_append, List.take_append_drop]
  rw [h, List.length_append]
  omega
set_option maxRecDepth 100000 in
set_option maxHeartbeats 2000000 in
theorem rpack_any (vm va vb : Value) (M : List (List (List Int))) (a b : List (List (Int × Int))) (X Y Z : Nat → Prop) (w : World) (hm : Sl (encS (encS encU)) X w vm M) (ha : Sl (encS encP) Y w va a) (hb : Sl (encS encP) Z w vb b) (hk : PackOk M a b) :
    Calls Try.prog 16 #[vm, va, vb] w (Gives encU (fun g => w.heap.size ≤ g) w (packI M a b)) := by
  have HM := Lib.hid hm
  have HA := Lib.hid ha
  have HB := Lib.hid hb
  have HK := Lib.hid hk
  obtain ⟨A1, c1, rfl, k1, l1⟩ := hm.form
  obtain ⟨A2, c2, rfl, k2, l2⟩ := ha.form
  obtain ⟨A3, c3, rfl, k3, l3⟩ := hb.form
  have HT0 : Hid (M.flatten.flatten.length ≤ 300 ∧ (prsN a.flatten).length ≤ 600 ∧ (prsN b.flatten).length ≤ 600) := Lib.hid (by
    obtain ⟨_, _, _, _, h1, _, _, h2, _, _, h3⟩ := hk
    rw [prsN_len, prsN_len]
    omega)
  clear hm ha hb hk
  go_enter Try.func16, Try.ntmps16
  go_wp2_with fail
  go_loopg [7, 8] M.length (fun gk s7 s8 wx => ∃ j : Nat, j + gk = M.length ∧ s8 = .int .i64 j ∧ Hid (Acc encU w.heap.size 22 (fun g => w.heap.size ≤ g) wx s7 (((M.map List.flatten).take j).flatten) ∧ w.grownBy wx none))
  case atStart => exact ⟨0, by omega, rfl, Lib.hid ⟨Acc.nil _ _ _ _ _, World.grownBy.refl _ _⟩⟩
  case round =>
    rename World => wi
    obtain ⟨j, hj, rfl, HX⟩ := hrel
    cases gk with
    | zero =>
      obtain rfl : j = M.length := by omega
      have hno : ¬ ((M.length : Int) < (M.length : Int)) := by omega
      have HS1 : Hid (Acc encU w.heap.size 22 (fun g => w.heap.size ≤ g) wi u7 (M.flatten.flatten ++ ((a.map prsN).take 0).flatten) ∧ w.grownBy wi none) := Lib.hid (by
        have h := HX.out
        rw [List.take_of_length_le (by simp), ← List.flatten_flatten] at h
        simpa using h)
      clear HX
      go_wp2_with fail
      go_loopg [7, 9] a.length (fun gk s7 s9 wx => ∃ j : Nat, j + gk = a.length ∧ s9 = .int .i64 j ∧ Hid (Acc encU w.heap.size 22 (fun g => w.heap.size ≤ g) wx s7 (M.flatten.flatten ++ ((a.map prsN).take j).flatten) ∧ w.grownBy wx none))
      case atStart => exact ⟨0, by omega, rfl, HS1⟩
      case round =>
        rename World => wj
        obtain ⟨j, hj, rfl, HX⟩ := hrel
        cases gk with
        | zero =>
          obtain rfl : j = a.length := by omega
          have hno : ¬ ((a.length : Int) < (a.length : Int)) := by omega
          have HS2 : Hid (Acc encU w.heap.size 22 (fun g => w.heap.size ≤ g) wj u7 (M.flatten.flatten ++ prsN a.flatten ++ ((b.map prsN).take 0).flatten) ∧ w.grownBy wj none) := Lib.hid (by
            have h := HX.out
            rw [List.take_of_length_le (by simp), prsN_flat] at h
            simpa using h)
          clear HX
          go_wp2_with fail
          go_loopg [7, 10] b.length (fun gk s7 s10 wx => ∃ j : Nat, j + gk = b.length ∧ s10 = .int .i64 j ∧ Hid (Acc encU w.heap.size 22 (fun g => w.heap.size ≤ g) wx s7 (M.flatten.flatten ++ prsN a.flatten ++ ((b.map prsN).take j).flatten) ∧ w.grownBy wx none))
          case atStart => exact ⟨0, by omega, rfl, HS2⟩
          case round =>
            rename World => wk
            obtain ⟨j, hj, rfl, HX⟩ := hrel
            cases gk with
            | zero =>
              obtain rfl : j = b.length := by omega
              have hno : ¬ ((b.length : Int) < (b.length : Int)) := by omega
              have HR : Hid (Sl encU (fun g => w.heap.size ≤ g) wk u7 (packI M a b) ∧ w.grownBy wk none) := Lib.hid ⟨by
                have h := HX.out.1.sl
                rw [List.take_of_length_le (by simp), prsN_flat] at h
                have e : packI M a b = M.flatten.flatten ++ prsN a.flatten ++ prsN b.flatten := by simp [packI]
                rw [e]
                exact h, HX.out.2⟩
              clear HX
              go_wp2
              go_ret
              exact ⟨_, rfl, HR.out⟩
            | succ m =>
              have hjn : (j : Int) < (b.length : Int) := by omega
              have hj0 : (0 : Int) ≤ (j : Int) := Int.natCast_nonneg j
              have hjN : j < b.length := by omega
              obtain ⟨g, o, c', u, e, _, _, hcu, hsu⟩ := (HB.out.kept HX.out.2).atS hjN
              injection e with e1 e2 e3
              subst e1 e3
              obtain ⟨Ac, nc, cc, rfl⟩ := hsu.shape
              have HSN := Lib.hid (flatm_snoc prsN b j hjN)
              have HC := Lib.hid (rprs_any _ b[j] _ wk hsu (by have := HK.out.2.2.2.2.2.2.2.2.2.1 _ (List.getElem_mem hjN); omega))
              have HP := Lib.hid (flat_part (b.map prsN) (j + 1))
              have HAx := Lib.hid HX.out.1
              have HG := Lib.hid HX.out.2
              obtain ⟨z, hz⟩ : ∃ z, z = prsN b[j] := ⟨_, rfl⟩
              rw [← hz] at HSN HC
              have HLB : Hid (((M.flatten.flatten ++ prsN a.flatten ++ ((b.map prsN).take j).flatten).length + z.length) * 8 ≤ 140737488355328) := Lib.hid (by
                have h1 := HP.out
                have h2 := HT0.out
                have h3 := congrArg List.length HSN.out
                rw [List.length_append] at h3
                rw [prsN_flat] at h1
                simp only [List.length_append]
                omega)
              clear hsu e2 HX hz
              go_wp2_with fail
              refine HC.out.mono ?_
              rintro e w1 ⟨v1, rfl, hs1, hg1⟩
              obtain ⟨A4, c4, e4, _, _⟩ := hs1.form
              subst e4
              have HA1 := Lib.hid (HAx.out.kept hg1)
              have HG1 : Hid (w.grownBy w1 none) := Lib.hid (HG.out.trans hg1)
              have HS1 := Lib.hid hs1
              clear hs1 hg1 HC
              go_wp2_with (at_builtin; refine wpList_apps rfl (.tmp 43) (.tmp 48) rfl (E := encU) el_u64 HA1.out rfl rfl HS1.out (fun _ _ h => h) HLB.out HG1.out.size (fun g hg => Nat.le_trans HG1.out.size hg) ?_)
              intro v3 w3 ha hg hm
              have HFIN : Hid (Acc encU w.heap.size 22 (fun g => w.heap.size ≤ g) w3 v3 (M.flatten.flatten ++ prsN a.flatten ++ ((b.map prsN).take (j + 1)).flatten) ∧ w.grownBy w3 none) := Lib.hid ⟨by rw [HSN.out]; simpa [List.append_assoc] using ha, grown_up HG1.out hg (fun g he => (HA1.out.lt g he).1)⟩
              clear ha hg hm
              go_wp2_with fail
              go_roundg m
              case measure => omega
              case rel => exact ⟨j + 1, by omega, by go_num, HFIN⟩
        | succ m =>
          have hjn : (j : Int) < (a.length : Int) := by omega
          have hj0 : (0 : Int) ≤ (j : Int) := Int.natCast_nonneg j
          have hjN : j < a.length := by omega
          obtain ⟨g, o, c', u, e, _, _, hcu, hsu⟩ := (HA.out.kept HX.out.2).atS hjN
          injection e with e1 e2 e3
          subst e1 e3
          obtain ⟨Ac, nc, cc, rfl⟩ := hsu.shape
          have HSN := Lib.hid (flatm_snoc prsN a j hjN)
          have HC := Lib.hid (rprs_any _ a[j] _ wj hsu (by have := HK.out.2.2.2.2.2.2.1 _ (List.getElem_mem hjN); omega))
          have HP := Lib.hid (flat_part (a.map prsN) (j + 1))
          have HAx := Lib.hid HX.out.1
          have HG := Lib.hid HX.out.2
          obtain ⟨z, hz⟩ : ∃ z, z = prsN a[j] := ⟨_, rfl⟩
          rw [← hz] at HSN HC
          have HLB : Hid (((M.flatten.flatten ++ ((a.map prsN).take j).flatten).length + z.length) * 8 ≤ 140737488355328) := Lib.hid (by
            have h1 := HP.out
            have h2 := HT0.out
            have h3 := congrArg List.length HSN.out
            rw [List.length_append] at h3
            rw [prsN_flat] at h1
            simp only [List.length_append]
            omega)
          clear hsu e2 HX hz
          go_wp2_with fail
          refine HC.out.mono ?_
          rintro e w1 ⟨v1, rfl, hs1, hg1⟩
          obtain ⟨A4, c4, e4, _, _⟩ := hs1.form
          subst e4
          have HA1 := Lib.hid (HAx.out.kept hg1)
          have HG1 : Hid (w.grownBy w1 none) := Lib.hid (HG.out.trans hg1)
          have HS1 := Lib.hid hs1
          clear hs1 hg1 HC
          go_wp2_with (at_builtin; refine wpList_apps rfl (.tmp 30) (.tmp 35) rfl (E := encU) el_u64 HA1.out rfl rfl HS1.out (fun _ _ h => h) HLB.out HG1.out.size (fun g hg => Nat.le_trans HG1.out.size hg) ?_)
          intro v3 w3 ha hg hm
          have HFIN : Hid (Acc encU w.heap.size 22 (fun g => w.heap.size ≤ g) w3 v3 (M.flatten.flatten ++ ((a.map prsN).take (j + 1)).flatten) ∧ w.grownBy w3 none) := Lib.hid ⟨by rw [HSN.out]; simpa [List.append_assoc] using ha, grown_up HG1.out hg (fun g he => (HA1.out.lt g he).1)⟩
          clear ha hg hm
          go_wp2_with fail
          go_roundg m
          case measure => omega
          case rel => exact ⟨j + 1, by omega, by go_num, HFIN⟩
    | succ m =>
      have hjn : (j : Int) < (M.length : Int) := by omega
      have hj0 : (0 : Int) ≤ (j : Int) := Int.natCast_nonneg j
      have hjN : j < M.length := by omega
      obtain ⟨g, o, c', u, e, _, _, hcu, hsu⟩ := (HM.out.kept HX.out.2).atS hjN
      injection e with e1 e2 e3
      subst e1 e3
      obtain ⟨Ac, nc, cc, rfl⟩ := hsu.shape
      have HSN := Lib.hid (flatm_snoc List.flatten M j hjN)
      have HC := Lib.hid (rflat_any _ M[j] _ wi hsu (by have := HK.out.2.1 _ (List.getElem_mem hjN); omega) (fun x hx => by have := HK.out.2.2.2.1 x (List.mem_flatten.2 ⟨_, List.getElem_mem hjN, hx⟩); omega))
      have HP := Lib.hid (flat_part (M.map List.flatten) (j + 1))
      have HAx := Lib.hid HX.out.1
      have HG := Lib.hid HX.out.2
      obtain ⟨z, hz⟩ : ∃ z, z = M[j].flatten := ⟨_, rfl⟩
      rw [← hz] at HSN HC
      have HLB : Hid (((((M.map List.flatten).take j).flatten).length + z.length) * 8 ≤ 140737488355328) := Lib.hid (by
        have h1 := HP.out
        have h2 := HT0.out
        have h3 := congrArg List.length HSN.out
        rw [List.length_append] at h3
        rw [← List.flatten_flatten] at h1
        omega)
      clear hsu e2 HX hz
      go_wp2_with fail
      refine HC.out.mono ?_
      rintro e w1 ⟨v1, rfl, hs1, hg1⟩
      obtain ⟨A4, c4, e4, _, _⟩ := hs1.form
      subst e4
      have HA1 := Lib.hid (HAx.out.kept hg1)
      have HG1 : Hid (w.grownBy w1 none) := Lib.hid (HG.out.trans hg1)
      have HS1 := Lib.hid hs1
      clear hs1 hg1 HC
      go_wp2_with (at_builtin; refine wpList_apps rfl (.tmp 17) (.tmp 22) rfl (E := encU) el_u64 HA1.out rfl rfl HS1.out (fun _ _ h => h) HLB.out HG1.out.size (fun g hg => Nat.le_trans HG1.out.size hg) ?_)
      intro v3 w3 ha hg hm
      have HFIN : Hid (Acc encU w.heap.size 22 (fun g => w.heap.size ≤ g) w3 v3 (((M.map List.flatten).take (j + 1)).flatten) ∧ w.grownBy w3 none) := Lib.hid ⟨by rw [HSN.out]; exact ha, grown_up HG1.out hg (fun g he => (HA1.out.lt g he).1)⟩
      clear ha hg hm
      go_wp2_with fail
      go_roundg m
      case measure => omega
      case rel => exact ⟨j + 1, by omega, by go_num, HFIN⟩
end Go.Proofs.Ytphbcfpiklmmeaa

namespace Go.Proofs.Ytphbcfpiklmmeaa
open Go Go.RowKit Go.Shelf

theorem comm_snoc (p : Par) (c : List (Int × Int)) (j : Nat) (h : j < c.length) : (c.take (j + 1)).map (commitI p) = (c.take j).map (commitI p) ++ [commitI p c[j]] := map_take_snoc' (commitI p) c j h
set_option maxRecDepth 100000 in
set_option maxHeartbeats 2000000 in
theorem rcommitted_any (p : Par) (v : Value) (L : List (List (Int × Int))) (X : Nat → Prop) (w : World) (hp : p.ok) (h : Sl (encS encP) X w v L) (hb : L.length ≤ 100000) (hb2 : ∀ c ∈ L, c.length ≤ 100000) :
    Calls Try.prog 33 #[p.v, v] w (Gives (encS encU) (fun g => w.heap.size ≤ g) w (L.map fun c => c.map (commitI p))) := by
  have H := Lib.hid h
  have HP := Lib.hid hp
  have HB2 := Lib.hid hb2
  obtain ⟨A, c, rfl, hc1, hc2⟩ := h.form
  obtain ⟨w0, hw0⟩ : ∃ y, y = w.alloc (Obj.cells p.cells 24) := ⟨_, rfl⟩
  have HB0 : Hid (Bk w0 w.heap.size 24 p.cells) := Lib.hid (by rw [hw0]; exact Bk.new w _ _)
  have HG0 : Hid (w.grownBy w0 none) := Lib.hid (by rw [hw0]; exact World.grownBy_alloc w _ none)
  clear h hp hb2
  go_enter Try.func33, Try.ntmps33
  go_wp2_with fail
  rw [← hw0]
  clear hw0
  go_loopg [5, 6] L.length (fun g s5 s6 wx => ∃ i : Nat, i + g = L.length ∧ s6 = .int .i64 i ∧ Hid (Acc (encS encU) w0.heap.size 35 (fun g => w0.heap.size ≤ g) wx s5 ((L.take i).map fun c => c.map (commitI p)) ∧ w0.grownBy wx none))
  case atStart => exact ⟨0, by omega, rfl, Lib.hid ⟨Acc.nil _ _ _ _ _, World.grownBy.refl _ _⟩⟩
  case round =>
    obtain ⟨i, hi, rfl, HX⟩ := hrel
    cases gk with
    | zero =>
      obtain rfl : i = L.length := by omega
      have HR : Hid (Sl (encS encU) (fun g => w.heap.size ≤ g) wr u5 (L.map fun c => c.map (commitI p)) ∧ w.grownBy wr none) := Lib.hid ⟨by
        have h := HX.out.1.sl
        rw [List.take_length] at h
        exact h.more fun g _ hg => Nat.le_trans HG0.out.size hg, HG0.out.trans HX.out.2⟩
      clear HX
      go_wp2
      go_ret
      exact ⟨_, rfl, HR.out⟩
    | succ m =>
      have hiL : (i : Int) < (L.length : Int) := by omega
      have hi0 : (0 : Int) ≤ (i : Int) := Int.natCast_nonneg i
      have hiN : i < L.length := by omega
      have HSN := Lib.hid (map_take_snoc' (fun c : List (Int × Int) => c.map (commitI p)) L i hiN)
      have HA := Lib.hid HX.out.1
      have HG := Lib.hid HX.out.2
      have HLN : Hid ((((L.take i).map fun c => c.map (commitI p)).length + 1) * 24 ≤ 140737488355328) := Lib.hid (by simp; omega)
      have HCX : Hid (∀ W, wr.grownBy W none → ∃ g o Ac cc, A = some ⟨g, o, none⟩ ∧ W.cell? ⟨g, o + i, none⟩ = some (.slice Ac L[i].length cc) ∧ Sl encP X W (.slice Ac L[i].length cc) L[i]) := Lib.hid (fun W hW => by
        obtain ⟨g, o, c', u, e, _, _, hcu, hsu⟩ := (H.out.kept (HG0.out.trans (HG.out.trans hW))).atS hiN
        injection e with e1 e2 e3
        obtain ⟨Ac, cc, e4, _, _⟩ := hsu.form
        subst e4
        exact ⟨g, o, Ac, cc, e1, hcu, hsu⟩)
      have HBL : Hid (L[i].length ≤ 100000) := Lib.hid (HB2.out _ (List.getElem_mem hiN))
      obtain ⟨y, hy⟩ : ∃ y, y = L[i] := ⟨_, rfl⟩
      rw [← hy] at HSN HCX HBL
      obtain ⟨n, hn⟩ : ∃ n, n = y.length := ⟨_, rfl⟩
      rw [← hn] at HCX HBL
      have HNY := Lib.hid hn
      have hn9 : n ≤ 100000 := HBL.out
      clear HX hy hn
      go_wp2_with fail
      go_loopg [7, 8] n (fun g s7 s8 wx => ∃ j : Nat, j + g = n ∧ s8 = .int .i64 j ∧ Hid (Acc encU wr.heap.size 22 (fun g => wr.heap.size ≤ g) wx s7 ((y.take j).map (commitI p)) ∧ wr.grownBy wx none))
      case atStart => exact ⟨0, by omega, rfl, Lib.hid ⟨Acc.nil _ _ _ _ _, World.grownBy.refl _ _⟩⟩
      case round =>
        rename World => wi
        obtain ⟨j, hj, rfl, HY⟩ := hrel
        obtain ⟨g, o, Ac, cc, eA, hcu, hsu⟩ := HCX.out wi HY.out.2
        subst eA
        cases gk with
        | zero =>
          obtain rfl : j = n := by omega
          have hno : ¬ ((j : Int) < (j : Int)) := by omega
          obtain ⟨A7, n7, c7, rfl⟩ := HY.out.1.sl.shape
          have HAO := Lib.hid (HA.out.kept HY.out.2)
          have HGO : Hid (w0.grownBy wi none) := Lib.hid (HG.out.trans HY.out.2)
          have HREP : Hid (Enc.rep (encS encU) (fun b => w0.heap.size ≤ b ∧ some b ≠ u5.ownBlock) wi [.slice A7 n7 c7] (y.map (commitI p))) := Lib.hid ⟨_, rfl, by
            have h := HY.out.1.sl
            rw [HNY.out, List.take_length] at h
            exact h.fresh HG.out HA.out⟩
          clear HY hsu
          go_wp2_with (at_builtin; refine wpList_pushG rfl (.tmp 36) (.tmp 38) rfl (E := encS encU) el_nums HGO.out HAO.out (fun _ h => h) HREP.out HLN.out rfl rfl ?_)
          intro v3 w3 ha hg hgo
          have HFIN : Hid (Acc (encS encU) w0.heap.size 35 (fun g => w0.heap.size ≤ g) w3 v3 ((L.take (i + 1)).map fun c => c.map (commitI p)) ∧ w0.grownBy w3 none) := Lib.hid ⟨by rw [HSN.out]; simpa using ha, hg⟩
          clear ha hg hgo
          go_wp2_with fail
          go_roundg m
          case measure => omega
          case rel => exact ⟨i + 1, by omega, by go_num, HFIN⟩
        | succ q =>
          have hjn : (j : Int) < (n : Int) := by omega
          have hj0 : (0 : Int) ≤ (j : Int) := Int.natCast_nonneg j
          have hjN : j < y.length := by rw [← HNY.out]; omega
          obtain ⟨g2, o2, c2, e, _, _, hc0, hc1', hu0, hu1⟩ := hsu.atP hjN
          injection e with e21 e22 e23
          subst e21 e23
          have HSC := Lib.hid (comm_snoc p y j hjN)
          have HU := Lib.hid (And.intro hu0 hu1)
          obtain ⟨x, hx⟩ : ∃ x, x = y[j] := ⟨_, rfl⟩
          rw [← hx] at hc0 hc1' HSC HU
          obtain ⟨x1, x2⟩ := x
          simp only at hc0 hc1'
          have HLC : Hid ((((y.take j).map (commitI p)).length + [commitI p (x1, x2)].length) * 8 ≤ 140737488355328) := Lib.hid (by
            have h1 := HBL.out
            have h2 : ((y.take j).map (commitI p)).length ≤ j := by
              rw [List.length_map, List.length_take]
              exact Nat.min_le_left _ _
            rw [List.length_singleton]
            omega)
          have HGw : Hid (wr.grownBy wi.drew none) := Lib.hid (HY.out.2.trans (grown_drewN' wi 1))
          have HLD : Hid (∀ W, wi.drew.grownBy W none → W.cell? ⟨g, o + i, none⟩ = some (.slice (some ⟨g2, o2, none⟩) n cc) ∧ W.cell? ⟨g2, o2 + j * 2, none⟩ = some (.int .u64 x1) ∧ W.cell? ⟨g2, o2 + j * 2 + 1, none⟩ = some (.int .u64 x2) ∧ ∀ o, W.cell? ⟨w.heap.size, o, none⟩ = (#[.int .u64 p.P, .int .u64 p.Q, .int .u64 p.G, .int .u64 p.H, .int .i64 p.Nodes, .int .i64 p.N, .int .i64 p.T, .int .i64 p.K, .int .i64 p.D, .int .i64 p.R, .int .i64 p.M, .int .i64 p.X] : Array Value)[o]?) := Lib.hid (fun W hW => ⟨cellK hcu ((grown_drewN' wi 1).trans hW) (by simp), cellK hc0 ((grown_drewN' wi 1).trans hW) (by simp), cellK hc1' ((grown_drewN' wi 1).trans hW) (by simp), (HB0.out.grown (HG.out.trans (HGw.out.trans hW)) (by simp)).prule⟩)
          obtain ⟨A7, n7, c7, rfl⟩ := HY.out.1.sl.shape
          have HAw := Lib.hid (HY.out.1.kept (grown_drewN' wi 1))
          clear hsu e22 hu0 hu1 HY hx hc0 hc1' hjN HCX
          go_upto_region 9 with (fail)
          refine wp_region_mono 11 (by kernel_rfl) (by kernel_rfl) ?_
          -- op 0 (slot 24): move
          refine MonoR.step (Pv.eq (.slice A7 n7 c7)) [] (by kernel_rfl) (fun w' hw' => ?_) ?_
          · refine ask_do rfl fun K hK => ?_
            go_simp
            exact hK _ _ rfl rfl (World.grownBy.refl _ none)
          -- op 1 (slot 25): load
          refine MonoR.step (Pv.eq (p.v)) [] (by kernel_rfl) (fun w' hw' => ?_) ?_
          · refine ask_do rfl fun K hK => ?_
            obtain ⟨q0, q1, q2, hp⟩ := HLD.out w' hw'
            go_simp
            exact hK _ _ rfl rfl (World.grownBy.refl _ none)
          -- op 2 (slot 26): move
          refine MonoR.step (Pv.eq (.slice (some ⟨g, o, none⟩) L.length c)) [] (by kernel_rfl) (fun w' hw' => ?_) ?_
          · refine ask_do rfl fun K hK => ?_
            go_simp
            exact hK _ _ rfl rfl (World.grownBy.refl _ none)
          -- op 3 (slot 27): move
          refine MonoR.step (Pv.eq (.int .i64 (i : Int))) [] (by kernel_rfl) (fun w' hw' => ?_) ?_
          · refine ask_do rfl fun K hK => ?_
            go_simp
            exact hK _ _ rfl rfl (World.grownBy.refl _ none)
          -- op 4 (slot 28): indexAddr
          refine MonoR.step (Pv.eq (.pointer (some ⟨g, o + i, none⟩))) [(2, 26), (3, 27)] (by kernel_rfl) (fun w' hw' => ?_) ?_
          · intro x26 h26
            intro x27 h27
            have e26 : x26 = .slice (some ⟨g, o, none⟩) L.length c := h26
            clear h26
            subst e26
            have e27 : x27 = .int .i64 (i : Int) := h27
            clear h27
            subst e27
            refine ask_do rfl fun K hK => ?_
            go_simp
            exact hK _ _ rfl rfl (World.grownBy.refl _ none)
          -- op 5 (slot 29): load
          refine MonoR.step (Pv.eq (.slice (some ⟨g2, o2, none⟩) n cc)) [(4, 28)] (by kernel_rfl) (fun w' hw' => ?_) ?_
          · intro x28 h28
            have e28 : x28 = .pointer (some ⟨g, o + i, none⟩) := h28
            clear h28
            subst e28
            refine ask_do rfl fun K hK => ?_
            obtain ⟨q0, q1, q2, hp⟩ := HLD.out w' hw'
            go_simp
            exact hK _ _ rfl rfl (World.grownBy.refl _ none)
          -- op 6 (slot 30): move
          refine MonoR.step (Pv.eq (.int .i64 (j : Int))) [] (by kernel_rfl) (fun w' hw' => ?_) ?_
          · refine ask_do rfl fun K hK => ?_
            go_simp
            exact hK _ _ rfl rfl (World.grownBy.refl _ none)
          -- op 7 (slot 31): indexAddr
          refine MonoR.step (Pv.eq (.pointer (some ⟨g2, o2 + j * 2, none⟩))) [(5, 29), (6, 30)] (by kernel_rfl) (fun w' hw' => ?_) ?_
          · intro x29 h29
            intro x30 h30
            have e29 : x29 = .slice (some ⟨g2, o2, none⟩) n cc := h29
            clear h29
            subst e29
            have e30 : x30 = .int .i64 (j : Int) := h30
            clear h30
            subst e30
            refine ask_do rfl fun K hK => ?_
            go_simp
            exact hK _ _ rfl rfl (World.grownBy.refl _ none)
          -- op 8 (slot 32): load
          refine MonoR.step (Pv.eq (.agg #[.int .u64 x1, .int .u64 x2])) [(7, 31)] (by kernel_rfl) (fun w' hw' => ?_) ?_
          · intro x31 h31
            have e31 : x31 = .pointer (some ⟨g2, o2 + j * 2, none⟩) := h31
            clear h31
            subst e31
            refine ask_do rfl fun K hK => ?_
            obtain ⟨q0, q1, q2, hp⟩ := HLD.out w' hw'
            go_simp
            exact hK _ _ rfl rfl (World.grownBy.refl _ none)
          -- op 9 (slot 33): call
          refine MonoR.step (Pv.eq (.int .u64 (commitI p (x1, x2)))) [(1, 25), (8, 32)] (by kernel_rfl) (fun w' hw' => ?_) ?_
          · intro x25 h25
            intro x32 h32
            have e25 : x25 = p.v := h25
            clear h25
            subst e25
            have e32 : x32 = .agg #[.int .u64 x1, .int .u64 x2] := h32
            clear h32
            subst e32
            refine ask_do rfl fun K hK => ?_
            go_simp
            refine (rcommit_any p (x1, x2) w' HP.out HU.out.1 HU.out.2).mono ?_
            rintro e w3 ⟨rfl, hg⟩
            exact hK _ _ rfl rfl hg
          -- op 10 (slot 34): buildSlice
          refine MonoR.step (Pv.sl (encU) TT [commitI p (x1, x2)]) [(9, 33)] (by kernel_rfl) (fun w' hw' => ?_) ?_
          · intro x33 h33
            have e33 : x33 = .int .u64 (commitI p (x1, x2)) := h33
            clear h33
            subst e33
            refine ask_do rfl fun K hK => ?_
            go_simp
            exact hK _ _ rfl (Sl.build [[.int .u64 (commitI p (x1, x2))]] rfl ⟨⟨rfl, commit_U64' _ _⟩, trivial⟩ rfl (by decide)) (World.grownBy_alloc w' _ none)
          
          intro w5 hw5
          intro y0 k0 y1 k1 y2 k2 y3 k3 y4 k4 y5 k5 y6 k6 y7 k7 y8 k8 y9 k9 y10 h10
          show wpList Try.prog _ _ _ _ w5
          simp only [Act.put, List.setIfInBounds_toArray, List.set_cons_zero, List.set_cons_succ]
          have e0 : y0 = .slice A7 n7 c7 := k0
          subst e0
          obtain ⟨A10, c10, e10, _, _⟩ := h10.form
          have e10 : y10 = .slice A10 1 c10 := e10
          subst e10
          have HA5 := Lib.hid (HAw.out.kept hw5)
          have HG5 : Hid (wr.grownBy w5 none) := Lib.hid (HGw.out.trans hw5)
          have HS10 : Hid (Sl encU TT w5 (.slice A10 1 c10) [commitI p (x1, x2)]) := Lib.hid h10
          clear k0 k1 k2 k3 k4 k5 k6 k7 k8 k9 h10 hw5
          refine wpList_apps rfl (.tmp 24) (.tmp 34) rfl (E := encU) el_u64 HA5.out rfl rfl HS10.out (fun _ _ h => h) HLC.out HG5.out.size (fun g hg => Nat.le_trans HG5.out.size hg) ?_
          intro v6 w6 ha hgr _
          have HFIN : Hid (Acc encU wr.heap.size 22 (fun g => wr.heap.size ≤ g) w6 v6 ((y.take (j + 1)).map (commitI p)) ∧ wr.grownBy w6 none) := Lib.hid ⟨by rw [HSC.out]; exact ha, grown_up HG5.out hgr (fun g he => (HA5.out.lt g he).1)⟩
          clear ha hgr
          go_wp2_with fail
          go_roundg q
          case measure => omega
          case rel => exact ⟨j + 1, by omega, by go_num, HFIN⟩
theorem drew_two (w : World) (a b : Nat) : ∃ n, (w.drewN a).drewN b = w.drewN n := ⟨a + b, by first | rfl | simp⟩
/-- Nums of whatever there is. -/
theorem numsB_any (v1 v2 : Value) (xs ys : List Int) (X Y : Nat → Prop) (w : World) (h1 : Sl encU X w v1 xs) (h2 : Sl encU Y w v2 ys) :
    Calls Try.prog 14 #[v1, v2] w (Quietly w (.bool (decide (xs = ys)))) := by
  by_cases hl : xs.length = ys.length
  · have H1 := Lib.hid h1
    have H2 := Lib.hid h2
    obtain ⟨A1, c1, rfl, hc1, hc2⟩ := h1.form
    obtain ⟨A2, c2, rfl, _, _⟩ := h2.form
    have HLL := Lib.hid hl
    rw [← hl]
    clear h1 h2
    have HST : Hid ((∃ n, w = w.drewN n) ∧ ∀ k (a : k < xs.length) (b : k < ys.length), k < 0 → xs[k] = ys[k]) := Lib.hid ⟨⟨0, rfl⟩, fun k a b h => absurd h (Nat.not_lt_zero _)⟩
    obtain ⟨B, hB⟩ : ∃ B, B = decide (xs = ys) := ⟨_, rfl⟩
    have HBB := Lib.hid hB
    rw [← hB]
    clear hB hl
    go_enter Try.func14, Try.ntmps14
    go_wp2_with fail
    go_loopg [5] xs.length (fun g s5 wx => ∃ j : Nat, j + g = xs.length ∧ s5 = .int .i64 j ∧ Hid ((∃ n, wx = w.drewN n) ∧ ∀ k (a : k < xs.length) (b : k < ys.length), k < j → xs[k] = ys[k]))
    case atStart => exact ⟨0, by omega, rfl, HST⟩
    case round =>
      obtain ⟨j, hj, rfl, HX⟩ := hrel
      obtain ⟨n0, rfl⟩ := HX.out.1
      cases gk with
      | zero =>
        obtain rfl : j = xs.length := by omega
        have HT : Hid (B = true) := Lib.hid (by
          rw [HBB.out]
          exact decide_eq_true (List.ext_getElem HLL.out fun k a b => HX.out.2 k a b a))
        clear HX HST
        go_wp2
        go_ret
        exact ⟨ret_bool HT.out.symm, _, rfl⟩
      | succ m =>
        have hjn : (j : Int) < (xs.length : Int) := by omega
        have hj0 : (0 : Int) ≤ (j : Int) := Int.natCast_nonneg j
        have hjN : j < xs.length := by omega
        have hjM : j < ys.length := by rw [← HLL.out]; exact hjN
        obtain ⟨g1, o1, c1', e1, _, _, a1, _⟩ := H1.out.atU hjN
        injection e1 with e11 e12 e13
        subst e11 e13
        obtain ⟨g2, o2, c2', e2, _, _, a2, _⟩ := H2.out.atU hjM
        injection e2 with e21 e22 e23
        subst e21 e23
        by_cases hxy : xs[j] = ys[j]
        · have HREL : Hid (∀ k (a : k < xs.length) (b : k < ys.length), k < j + 1 → xs[k] = ys[k]) := Lib.hid (fun k a b hk => by
            rcases Nat.lt_or_ge k j with h | h
            · exact HX.out.2 k a b h
            · obtain rfl : k = j := by omega
              exact hxy)
          rw [← hxy] at a2
          obtain ⟨z, hz⟩ : ∃ z, z = xs[j] := ⟨_, rfl⟩
          rw [← hz] at a1 a2
          clear HX HST e12 e22 hxy hz
          go_wp2_with fail
          go_quiet (fail)
          go_wp2_with fail
          go_roundg m
          case measure => omega
          case rel => exact ⟨j + 1, by omega, by go_num, Lib.hid ⟨⟨_, rfl⟩, HREL.out⟩⟩
        · have HF : Hid (B = false) := Lib.hid (by
            rw [HBB.out]
            exact decide_eq_false fun h => hxy (by simp [h]))
          obtain ⟨z1, hz1⟩ : ∃ z, z = xs[j] := ⟨_, rfl⟩
          obtain ⟨z2, hz2⟩ : ∃ z, z = ys[j] := ⟨_, rfl⟩
          rw [← hz1] at a1 hxy
          rw [← hz2] at a2 hxy
          have hne : (z1 != z2) = true := by simpa using hxy
          clear HX HST e12 e22 hz1 hz2
          go_wp2_with fail
          go_quiet (fail)
          go_wp2_with fail
          go_ret
          exact ⟨ret_bool HF.out.symm, drew_two _ _ _⟩
  · obtain ⟨A1, c1, rfl, hc1, hc2⟩ := h1.form
    obtain ⟨A2, c2, rfl, _, _⟩ := h2.form
    have hne : ((xs.length : Int) != (ys.length : Int)) = true := by simpa using (by omega : ¬ (xs.length : Int) = (ys.length : Int))
    have HF : Hid (decide (xs = ys) = false) := Lib.hid (decide_eq_false fun h => hl (by rw [h]))
    rw [HF.out]
    clear h1 h2 HF hl
    obtain ⟨n1, hn1⟩ : ∃ n, n = xs.length := ⟨_, rfl⟩
    obtain ⟨n2, hn2⟩ : ∃ n, n = ys.length := ⟨_, rfl⟩
    rw [← hn1, ← hn2] at hne ⊢
    clear hn1 hn2 hc1
    go_enter Try.func14, Try.ntmps14
    go_wp2
    go_ret
    exact ⟨rfl, 0, rfl⟩
end Go.Proofs.Ytphbcfpiklmmeaa
