/- group.Power, Commit, At, Is, walked. -/
import Derived.Test.YtnjbigbiclfcoaaDoorGrp
import Derived.Test.YtnjbigbiclfcoaaDoorRefA
import Derived.Deep.RegionHeld3
import Derived.Deep.RegionWith
import Derived.Deep.DeepCutAuto
namespace Go.Proofs.YtnjbigbiclfcoaaDoor
open Go.RowKit

theorem Sl.ofBk {w : World} {g : Nat} {t : TypeId} {l : List Int} (h : Bk w g t (nums l).toArray) (hu : ∀ x ∈ l, U64 x) (hl : l.length ≤ 9223372036854775807) : Sl encU (fun _ => True) w (.slice (some ⟨g, 0, none⟩) l.length l.length) l := by
  refine ⟨_, _, rfl, Nat.le_refl _, hl, fun _ => ⟨g, 0, rfl, h.lt, trivial, fun i hi => ⟨_, ⟨rfl, hu _ (List.getElem_mem hi)⟩, fun j u hj => ?_⟩⟩⟩
  have hj0 : j = 0 := by
    have := (List.getElem?_eq_some_iff.1 hj).1
    simp at this
    exact this
  subst hj0
  simp at hj
  subst hj
  rw [h.cell]
  simp [nums, encU, hi]
theorem cells_of {w w' : World} (hg : w.grownBy w' none) {n : Nat} (hn : n ≤ w.heap.size) : ∀ b o, b < n → w'.cell? ⟨b, o, none⟩ = w.cell? ⟨b, o, none⟩ := fun b o h => World.cell?_of_block (hg.block b (by omega) (by simp))
theorem cells_alloc {w' W : World} {n : Nat} (h : ∀ b o, b < n → w'.cell? ⟨b, o, none⟩ = W.cell? ⟨b, o, none⟩) (hn : n ≤ w'.heap.size) (ob : Obj) : ∀ b o, b < n → (w'.alloc ob).cell? ⟨b, o, none⟩ = W.cell? ⟨b, o, none⟩ := fun b o hb => (World.cell?_alloc_lt w' ob ⟨b, o, none⟩ (by simp; omega)).trans (h b o hb)
theorem times_two (p : Par) (a b : Int) (w : World) (ha : U64 a) (hb : U64 b) :
    Calls Tryd.prog 16 #[p.v, .slice (some ⟨w.heap.size, 0, none⟩) 2 2] (w.alloc (Obj.cells #[.int .u64 a, .int .u64 b] 22)) fun e w' => e = .returned (.int .u64 (timesI p.P [a, b])) ∧ w.grownBy w' none :=
  (times_any p _ [a, b] (fun _ => True) _ (Sl.ofBk (t := 22) (Bk.new w 22 (nums [a, b]).toArray) (by intro y hy; simp at hy; rcases hy with rfl | rfl <;> assumption) (by simp))).mono fun _ _ ⟨he, hg⟩ => ⟨he, (World.grownBy_alloc w _ none).trans hg⟩
theorem times_nil (p : Par) (w : World) :
    Calls Tryd.prog 16 #[p.v, .slice none 0 0] w fun e w' => e = .returned (.int .u64 (timesI p.P [])) ∧ w.grownBy w' none :=
  times_any p _ [] (fun _ => True) w (Sl.nil _ _ _)
set_option maxHeartbeats 400000 in
theorem power_any (p : Par) (x e : Int) (w : World) (hx : U64 x) (he : U64 e) :
    Calls Tryd.prog 14 #[p.v, .int .u64 x, .int .u64 e] w fun e' w' => e' = .returned (.int .u64 (powI x e p.P)) ∧ w.grownBy w' none := by
  go_enter Tryd.func14, Tryd.ntmps14
  go_wp2_with fail
  refine (pow_any x e p.P _ hx he).mono ?_
  rintro e w' ⟨rfl, n, rfl⟩
  go_wp2
  go_ret
  exact ⟨rfl, grownBy_drewN (World.grownBy_alloc w _ none) n⟩
def commitI (p : Par) (x : Int × Int) : Int := timesI p.P [powI p.G x.1 p.P, powI p.H x.2 p.P]
set_option maxHeartbeats 400000 in
theorem commit_any (p : Par) (x : Int × Int) (w : World) (hp : p.ok) (h1 : U64 x.1) (h2 : U64 x.2) :
    Calls Tryd.prog 17 #[p.v, .agg #[.int .u64 x.1, .int .u64 x.2]] w fun e' w' => e' = .returned (.int .u64 (commitI p x)) ∧ w.grownBy w' none := by
  have HG : Hid (U64 p.G) := Lib.hid hp.G
  have HH : Hid (U64 p.H) := Lib.hid hp.H
  have H1 := Lib.hid h1
  have H2 := Lib.hid h2
  have HU := Lib.hid (powI_U64' p.G x.1 p.P)
  have HL := Lib.hid (powI_U64' p.H x.2 p.P)
  clear hp h1 h2
  go_enter Tryd.func17, Tryd.ntmps17
  go_wp2_with fail
  go_region_held3 (fun w' => ∀ b o, b < w.heap.size + 2 → w'.cell? ⟨b, o, none⟩ = ((w.alloc (Obj.cells p.cells 24)).alloc (Obj.cells #[.int .u64 x.1, .int .u64 x.2] 35)).cell? ⟨b, o, none⟩) (first | assumption | exact cells_alloc (by assumption) (by assumption) _ | go_keep)
    (first
    | (go_at_call 14; (with_reducible refine (power_any p p.G x.1 _ HG.out H1.out).mono ?_); rintro e w1 ⟨rfl, hg⟩; have HG1 := Lib.hid hg; have hc1 := cells_of (n := w.heap.size + 2) hg (by simp); clear hg)
    | (go_at_call 14; (with_reducible refine (power_any p p.H x.2 _ HH.out H2.out).mono ?_); rintro e w2 ⟨rfl, hg⟩; have HG2 := Lib.hid (HG1.out.trans hg); have hc2 := cells_of (n := w.heap.size + 2) HG2.out (by simp); have hs2 : w.heap.size + 2 ≤ w2.heap.size := Nat.le_trans (by simp) HG2.out.size; clear hg)
    | (go_at_call 16; (with_reducible refine (times_two p _ _ w2 HU.out HL.out).mono ?_); rintro e w3 ⟨rfl, hg⟩; have HG3 := Lib.hid (HG2.out.trans hg); have hc3 := cells_of (n := w.heap.size + 2) HG3.out (by simp); clear hg))
  go_wp2
  go_ret
  exact ⟨rfl, ((World.grownBy_alloc w _ none).trans (World.grownBy_alloc _ _ none)).trans (grownBy_drewN (World.grownBy.refl _ none) 1 |>.trans HG3.out)⟩
def isB (p : Par) (x : Int) : Bool := decide (1 ≤ x) && decide (x < p.P) && powI x p.Q p.P == 1
set_option maxHeartbeats 400000 in
theorem is_any (p : Par) (x : Int) (w : World) (hp : p.ok) (h1 : U64 x) :
    Calls Tryd.prog 15 #[p.v, .int .u64 x] w fun e' w' => e' = .returned (.bool (isB p x)) ∧ w.grownBy w' none := by
  have HQ : Hid (U64 p.Q) := Lib.hid hp.Q
  have H1 := Lib.hid h1
  clear hp h1
  by_cases ha : 1 ≤ x
  · by_cases hb : x < p.P
    · have HE : Hid (isB p x = (powI x p.Q p.P == 1)) := Lib.hid (by simp [isB, ha, hb])
      go_enter Tryd.func15, Tryd.ntmps15
      go_wp2_with fail
      refine (power_any p x p.Q _ H1.out HQ.out).mono ?_
      rintro e w1 ⟨rfl, hg⟩
      have HG := Lib.hid hg
      clear hg
      go_wp2
      go_ret
      exact ⟨ret_bool HE.out.symm, (World.grownBy_alloc w _ none).trans HG.out⟩
    · have HE : Hid (isB p x = false) := Lib.hid (by simp [isB, hb])
      have hb' : decide (x < p.P) = false := by simpa using hb
      clear hb
      go_enter Tryd.func15, Tryd.ntmps15
      go_wp2_with fail
      go_ret
      exact ⟨ret_bool HE.out.symm, World.grownBy_alloc w _ none⟩
  · have HE : Hid (isB p x = false) := Lib.hid (by simp [isB, ha])
    go_enter Tryd.func15, Tryd.ntmps15
    go_wp2_with fail
    go_ret
    exact ⟨ret_bool HE.out.symm, World.grownBy_alloc w _ none⟩
def atGo (p : Par) (i : Int) : List Int → Int → Int → Int
  | [], x, _ => x
  | y :: l, x, e => atGo p i l (timesI p.P [x, powI y e p.P]) (mulI e i p.Q)
def atI (p : Par) (l : List Int) (i : Int) : Int := atGo p i l (timesI p.P []) (mulI 1 1 p.Q)
theorem atGo_step (p : Par) (i : Int) (l : List Int) (j : Nat) (h : j < l.length) (x e : Int) : atGo p i (l.drop j) x e = atGo p i (l.drop (j + 1)) (timesI p.P [x, powI l[j] e p.P]) (mulI e i p.Q) := by
  rw [List.drop_eq_getElem_cons h]
  rfl
set_option maxHeartbeats 400000 in
theorem at_all (p : Par) (v : Value) (l : List Int) (i : Int) (X : Nat → Prop) (w : World) (h : Sl encU X w v l) (hi : U64 i) :
    Calls Tryd.prog 18 #[p.v, v, .int .u64 i] w fun e' w' => e' = .returned (.int .u64 (atI p l i)) ∧ w.grownBy w' none := by
  have H := Lib.hid h
  have HI := Lib.hid hi
  obtain ⟨A, c, rfl, h1, h2⟩ := h.form
  clear h hi
  go_enter Tryd.func18, Tryd.ntmps18
  go_wp2_with fail
  refine (times_nil p _).mono ?_
  rintro e w1 ⟨rfl, hg⟩
  have HG := Lib.hid hg
  have HB : Hid (Bk w1 w.heap.size 24 p.cells) := Lib.hid ((Bk.new w _ _).grown hg (by simp))
  have hc1 := HB.out.prule
  clear hg
  go_wp2_with fail
  refine (mul_any 1 1 p.Q _ (by decide) (by decide)).mono ?_
  rintro e w' ⟨rfl, n, rfl⟩
  have HS : Hid (U64 (timesI p.P []) ∧ U64 (mulI 1 1 p.Q) ∧ w.grownBy (w1.drewN n) none ∧ Bk (w1.drewN n) w.heap.size 24 p.cells ∧ atGo p i (l.drop 0) (timesI p.P []) (mulI 1 1 p.Q) = atI p l i) :=
    Lib.hid ⟨timesI_U64 _ _, mulI_U64 _ _ _, grownBy_drewN ((World.grownBy_alloc w _ none).trans HG.out) n, HB.out.drewN n, rfl⟩
  clear HB HG hc1
  go_wp2_with fail
  go_loopg [7, 8, 18] l.length (fun g sx se si wx => ∃ (j : Nat) (x e : Int), j + g = l.length ∧ si = .int .i64 j ∧ sx = .int .u64 x ∧ se = .int .u64 e ∧ Hid (U64 x ∧ U64 e ∧ w.grownBy wx none ∧ Bk wx w.heap.size 24 p.cells ∧ atGo p i (l.drop j) x e = atI p l i))
  case atStart => exact ⟨0, _, _, by omega, rfl, rfl, rfl, HS⟩
  case round =>
    obtain ⟨j, x, e, hj, rfl, rfl, rfl, HX⟩ := hrel
    cases gk with
    | zero =>
      obtain rfl : j = l.length := by omega
      have HE : Hid (x = atI p l i) := Lib.hid (by have := HX.out.2.2.2.2; rwa [List.drop_length] at this)
      have HGG := Lib.hid HX.out.2.2.1
      clear HX
      go_wp2
      go_ret
      exact ⟨ret_u64 HE.out, HGG.out⟩
    | succ k =>
      have hjn : (j : Int) < (l.length : Int) := by omega
      have hjN : j < l.length := by omega
      obtain ⟨hx, he, hg, hb, hs⟩ := HX.out
      obtain ⟨g, o, c', e', _, _, hc, hu⟩ := (H.out.kept hg).atU hjN
      injection e' with e1 e2 e3
      subst e1 e3
      have hp := hb.prule
      rw [atGo_step p i l j hjN] at hs
      have HS := Lib.hid hs
      have HXu := Lib.hid hx
      have HEu := Lib.hid he
      have HU := Lib.hid hu
      have HGr := Lib.hid hg
      have HBk := Lib.hid hb
      generalize l[j] = y at *
      clear hx he hg hb hs hu e2 HX
      go_wp2_with fail
      go_region_held3 (fun w' => ∀ o, w'.cell? ⟨w.heap.size, o, none⟩ = (#[.int .u64 p.P, .int .u64 p.Q, .int .u64 p.G, .int .u64 p.H, .int .i64 p.Nodes, .int .i64 p.N, .int .i64 p.T, .int .i64 p.K, .int .i64 p.D, .int .i64 p.R, .int .i64 p.M, .int .i64 p.X] : Array Value)[o]?) (first | assumption | exact rule_alloc (by assumption) (by assumption) _ | go_keep)
        (first
        | (go_at_call 14; (with_reducible refine (power_any p y e _ HU.out HEu.out).mono ?_); rintro e' w2 ⟨rfl, hg⟩; have HG2 := Lib.hid hg; have HB2 := Lib.hid ((HBk.out.drewN 1).grown hg (by simp)); have hp2 := HB2.out.prule; have hs2 := HB2.out.lt; clear hg)
        | (go_at_call 16; (with_reducible refine (times_two p x (powI y e p.P) w2 HXu.out (powI_U64' y e p.P)).mono ?_); rintro e' w3 ⟨rfl, hg⟩; have HG3 := Lib.hid hg; have HB3 := Lib.hid (HB2.out.grown hg (by simp)); have hp3 := HB3.out.prule; clear hg))
      go_wp2_with fail
      refine (mul_any e i p.Q _ HEu.out HI.out).mono ?_
      rintro e' w' ⟨rfl, n', rfl⟩
      go_wp2
      go_roundg k
      case measure => omega
      case rel => exact ⟨j + 1, _, _, by omega, by go_num, rfl, rfl, Lib.hid ⟨timesI_U64 _ _, mulI_U64 _ _ _, grownBy_drewN ((HGr.out.trans (grownBy_drewN (World.grownBy.refl wr none) 1)).trans (HG2.out.trans HG3.out)) n', HB3.out.drewN n', HS.out⟩⟩
end Go.Proofs.YtnjbigbiclfcoaaDoor
