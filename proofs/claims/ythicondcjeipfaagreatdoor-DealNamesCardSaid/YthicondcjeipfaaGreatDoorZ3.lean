/- group.May, walked: the asks as values, and the whole. Powers and commitments modulo P: plain arithmetic. The plain law of weights: places apart, rows turned about, one place alone. No program in sight but the data's words. The plain law of weights: rows turned about, one place alone. What members' pairs, and dealers' commitments, come to: in whatever row, and of one alone: the plain law of ShareRows. The plain law of ShareFits: what shares come to fits what their commitments come to. The plain law of weights at 0: two or three points tell a polynomial's first number. poly.Eval; bivar.wide, reads, Col; walked. consistorylaw20.some, walked; three lists side by side. The plain law of ShareWhole: the shares of T + 1 members come to the secrets, and these are the model's. deal.Model, walked (printed by mk_dealm.py). Slices of numbers and the blocks in which they do not lie. tape.Next with draws told ahead, At, New, slices.Clone, Of, walked. tape.Of, Next over any tape, Draws, walked. A tape of which draws were told ahead, told to what deals. deal.cut, walked. deal: small, secrets, paired, lists, OpenPairs, OpenComs, walked. deal: lists, OpenPairs, OpenComs, Open, walked. deal.Pairs, walked. The same steps, where the region does not draw its order. -/
import Derived.Test.YthicondcjeipfaaGreatDoorZ2
import Derived.Deep.LoopGhost
import Derived.IntWalk
import Derived.Lib.SliceRun
import Derived.Outline
import Derived.Deep.RegionHeld3
import Derived.Deep.DeepCutAuto
import Derived.Deep.QuietTactic
import Derived.BigQuiet
import Derived.Deep.OwnRows
namespace Go.Proofs.YthicondcjeipfaaGreatDoor
open Go.RowKit

theorem cell_lt {w : World} {g o : Nat} {v : Value} (h : w.cell? ⟨g, o, none⟩ = some v) : g < w.heap.size := by
  rcases Nat.lt_or_ge g w.heap.size with hlt | hge
  · exact hlt
  · simp [World.cell?, Array.getElem?_eq_none hge] at h
theorem TabsAt.kept {w w' : World} (h : TabsAt w) (hg : w.grownBy w' none) : TabsAt w' :=
  ⟨fun j hj => by have := h.1 j hj; rw [World.cell?_of_block (w := w) (hg.block _ (cell_lt this) (by simp))]; exact this,
   fun j hj => by have := h.2 j hj; rw [World.cell?_of_block (w := w) (hg.block _ (cell_lt this) (by simp))]; exact this⟩
set_option maxHeartbeats 400000 in
theorem may_9 (p : Par) (g : Nat) (w : World) (hT : TabsAt w) (hb : Bk w g 24 p.cells) :
    Calls Tryz.prog 63 #[.pointer (some ⟨g, 0, none⟩)] w fun e w' => e = .returned (.bool (m9 p)) ∧ w.grownBy w' none := by
  have hc := hb.prule
  have HQ := prime_any p.Q w hT
  have HP := Lib.hid (fun k => prime_any p.P (w.drewN k) (hT.drewN k))
  clear hb hT
  cases hQ : primeB p.Q with
  | true =>
    rw [hQ] at HQ
    have HQ2 := Lib.hid HQ
    have HE : Hid (m9 p = primeB p.P) := Lib.hid (by simp [m9, hQ])
    clear hQ HQ
    go_enter Tryz.func63, Tryz.ntmps63
    go_wp2_with fail
    refine HQ2.out.mono ?_
    rintro e w' ⟨rfl, k, rfl⟩
    go_wp2_with fail
    refine (HP.out k).mono ?_
    rintro e w' ⟨rfl, k2, rfl⟩
    go_wp2
    go_ret
    exact ⟨ret_bool HE.out.symm, grownBy_drewN (World.grownBy.refl w none) _⟩
  | false =>
    rw [hQ] at HQ
    have HQ2 := Lib.hid HQ
    have HE : Hid (m9 p = false) := Lib.hid (by simp [m9, hQ])
    clear hQ HQ
    go_enter Tryz.func63, Tryz.ntmps63
    go_wp2_with fail
    refine HQ2.out.mono ?_
    rintro e w' ⟨rfl, k, rfl⟩
    go_wp2
    go_ret
    exact ⟨ret_bool HE.out.symm, grownBy_drewN (World.grownBy.refl w none) _⟩
theorem is_eq (p : Par) (x : Int) (b : Bool) (h : isB p x = b) (w : World) (hp : p.ok) (h1 : U64 x) :
    Calls Tryz.prog 66 #[p.v, .int .u64 x] w fun e' w' => e' = .returned (.bool b) ∧ w.grownBy w' none := h ▸ is_any p x w hp h1
set_option maxHeartbeats 400000 in
theorem may_10 (p : Par) (g : Nat) (w : World) (hp : p.ok) (hb : Bk w g 24 p.cells) :
    Calls Tryz.prog 65 #[.pointer (some ⟨g, 0, none⟩)] w fun e w' => e = .returned (.bool (m10 p)) ∧ w.grownBy w' none := by
  have hc := hb.prule
  have HB := Lib.hid hb
  by_cases h1 : p.G = 1
  · have h1' : (p.G != 1) = false := by simpa using h1
    have HE : Hid (m10 p = false) := Lib.hid (by simp [m10, h1])
    clear h1 hp hb
    go_enter Tryz.func65, Tryz.ntmps65
    go_wp2
    go_ret
    exact ⟨ret_bool HE.out.symm, World.grownBy.refl w none⟩
  · have h1' : (p.G != 1) = true := by simpa using h1
    cases hG : isB p p.G with
    | false =>
      have HI := Lib.hid (fun w => is_eq p p.G _ hG w hp hp.G)
      have HE : Hid (m10 p = false) := Lib.hid (by simp [m10, hG])
      clear h1 hp hb hG
      go_enter Tryz.func65, Tryz.ntmps65
      go_wp2_with fail
      refine (HI.out _).mono ?_
      rintro e w1 ⟨rfl, hg⟩
      have HG := Lib.hid hg
      clear hg
      go_wp2
      go_ret
      exact ⟨ret_bool HE.out.symm, HG.out⟩
    | true =>
      have HI := Lib.hid (fun w => is_eq p p.G _ hG w hp hp.G)
      by_cases h2 : p.H = 1
      · have h2' : (p.H != 1) = false := by simpa using h2
        have HE : Hid (m10 p = false) := Lib.hid (by simp [m10, h2])
        clear h1 h2 hp hb hG
        go_enter Tryz.func65, Tryz.ntmps65
        go_wp2_with fail
        refine (HI.out _).mono ?_
        rintro e w1 ⟨rfl, hg⟩
        have HG := Lib.hid hg
        have hc1 := (HB.out.grown hg (by simp)).prule
        clear hg
        go_wp2
        go_ret
        exact ⟨ret_bool HE.out.symm, HG.out⟩
      · have h2' : (p.H != 1) = true := by simpa using h2
        have HJ := Lib.hid (fun w => is_any p p.H w hp hp.H)
        have HE : Hid (m10 p = isB p p.H) := Lib.hid (by simp [m10, hG, h1, h2])
        clear h1 h2 hp hb hG
        go_enter Tryz.func65, Tryz.ntmps65
        go_wp2_with fail
        refine (HI.out _).mono ?_
        rintro e w1 ⟨rfl, hg⟩
        have HG := Lib.hid hg
        have hc1 := (HB.out.grown hg (by simp)).prule
        clear hg
        go_wp2_with fail
        refine (HJ.out _).mono ?_
        rintro e w2 ⟨rfl, hg⟩
        have HG2 := Lib.hid (HG.out.trans hg)
        clear hg
        go_wp2
        go_ret
        exact ⟨ret_bool HE.out.symm, HG2.out⟩
def ms (p : Par) : List Bool := [m1 p, m2 p, m3 p, m4 p, m5 p, m6 p, m7 p, m8 p, m9 p, m10 p]
def fvs (g : Nat) : List Value := [.func (.func 54) #[] #[.pointer (some ⟨g, 0, none⟩)], .func (.func 55) #[] #[.pointer (some ⟨g, 0, none⟩)], .func (.func 57) #[] #[.pointer (some ⟨g, 0, none⟩)], .func (.func 58) #[] #[.pointer (some ⟨g, 0, none⟩)], .func (.func 59) #[] #[.pointer (some ⟨g, 0, none⟩)], .func (.func 60) #[] #[.pointer (some ⟨g, 0, none⟩)], .func (.func 61) #[] #[.pointer (some ⟨g, 0, none⟩)], .func (.func 62) #[] #[.pointer (some ⟨g, 0, none⟩)], .func (.func 63) #[] #[.pointer (some ⟨g, 0, none⟩)], .func (.func 65) #[] #[.pointer (some ⟨g, 0, none⟩)]]

set_option maxHeartbeats 400000 in
theorem ask_1 (p : Par) (g : Nat) (w : World) (hp : p.ok) (_hT : TabsAt w) (hb : Bk w g 24 p.cells)  :
    Calls Tryz.prog 68 #[.func (.func 54) #[] #[.pointer (some ⟨g, 0, none⟩)]] w fun e w' => e = .returned (.bool (!m1 p)) ∧ w.grownBy w' none := by
  have HM := Lib.hid (may_1 p g w hp hb)
  clear hp _hT hb
  go_enter Tryz.func68, Tryz.ntmps68
  go_wp2_with fail
  refine HM.out.mono ?_
  rintro e w1 ⟨rfl, hg⟩
  have HG := Lib.hid hg
  clear hg
  go_wp2
  go_ret
  exact ⟨rfl, HG.out⟩
set_option maxHeartbeats 400000 in
theorem ask_2 (p : Par) (g : Nat) (w : World) (_hp : p.ok) (_hT : TabsAt w) (hb : Bk w g 24 p.cells)  :
    Calls Tryz.prog 68 #[.func (.func 55) #[] #[.pointer (some ⟨g, 0, none⟩)]] w fun e w' => e = .returned (.bool (!m2 p)) ∧ w.grownBy w' none := by
  have HM := Lib.hid (may_2 p g w hb)
  clear _hp _hT hb
  go_enter Tryz.func68, Tryz.ntmps68
  go_wp2_with fail
  refine HM.out.mono ?_
  rintro e w1 ⟨rfl, hg⟩
  have HG := Lib.hid hg
  clear hg
  go_wp2
  go_ret
  exact ⟨rfl, HG.out⟩
set_option maxHeartbeats 400000 in
theorem ask_3 (p : Par) (g : Nat) (w : World) (hp : p.ok) (_hT : TabsAt w) (hb : Bk w g 24 p.cells) (h2 : m2 p = true) :
    Calls Tryz.prog 68 #[.func (.func 57) #[] #[.pointer (some ⟨g, 0, none⟩)]] w fun e w' => e = .returned (.bool (!m3 p)) ∧ w.grownBy w' none := by
  have HM := Lib.hid (may_3 p g w hp hb h2)
  clear hp _hT hb h2
  go_enter Tryz.func68, Tryz.ntmps68
  go_wp2_with fail
  refine HM.out.mono ?_
  rintro e w1 ⟨rfl, hg⟩
  have HG := Lib.hid hg
  clear hg
  go_wp2
  go_ret
  exact ⟨rfl, HG.out⟩
set_option maxHeartbeats 400000 in
theorem ask_4 (p : Par) (g : Nat) (w : World) (_hp : p.ok) (_hT : TabsAt w) (hb : Bk w g 24 p.cells)  :
    Calls Tryz.prog 68 #[.func (.func 58) #[] #[.pointer (some ⟨g, 0, none⟩)]] w fun e w' => e = .returned (.bool (!m4 p)) ∧ w.grownBy w' none := by
  have HM := Lib.hid (may_4 p g w hb)
  clear _hp _hT hb
  go_enter Tryz.func68, Tryz.ntmps68
  go_wp2_with fail
  refine HM.out.mono ?_
  rintro e w1 ⟨rfl, hg⟩
  have HG := Lib.hid hg
  clear hg
  go_wp2
  go_ret
  exact ⟨rfl, HG.out⟩
set_option maxHeartbeats 400000 in
theorem ask_5 (p : Par) (g : Nat) (w : World) (_hp : p.ok) (_hT : TabsAt w) (hb : Bk w g 24 p.cells)  :
    Calls Tryz.prog 68 #[.func (.func 59) #[] #[.pointer (some ⟨g, 0, none⟩)]] w fun e w' => e = .returned (.bool (!m5 p)) ∧ w.grownBy w' none := by
  have HM := Lib.hid (may_5 p g w hb)
  clear _hp _hT hb
  go_enter Tryz.func68, Tryz.ntmps68
  go_wp2_with fail
  refine HM.out.mono ?_
  rintro e w1 ⟨rfl, hg⟩
  have HG := Lib.hid hg
  clear hg
  go_wp2
  go_ret
  exact ⟨rfl, HG.out⟩
set_option maxHeartbeats 400000 in
theorem ask_6 (p : Par) (g : Nat) (w : World) (_hp : p.ok) (_hT : TabsAt w) (hb : Bk w g 24 p.cells)  :
    Calls Tryz.prog 68 #[.func (.func 60) #[] #[.pointer (some ⟨g, 0, none⟩)]] w fun e w' => e = .returned (.bool (!m6 p)) ∧ w.grownBy w' none := by
  have HM := Lib.hid (may_6 p g w hb)
  clear _hp _hT hb
  go_enter Tryz.func68, Tryz.ntmps68
  go_wp2_with fail
  refine HM.out.mono ?_
  rintro e w1 ⟨rfl, hg⟩
  have HG := Lib.hid hg
  clear hg
  go_wp2
  go_ret
  exact ⟨rfl, HG.out⟩
set_option maxHeartbeats 400000 in
theorem ask_7 (p : Par) (g : Nat) (w : World) (_hp : p.ok) (_hT : TabsAt w) (hb : Bk w g 24 p.cells)  :
    Calls Tryz.prog 68 #[.func (.func 61) #[] #[.pointer (some ⟨g, 0, none⟩)]] w fun e w' => e = .returned (.bool (!m7 p)) ∧ w.grownBy w' none := by
  have HM := Lib.hid (may_7 p g w hb)
  clear _hp _hT hb
  go_enter Tryz.func68, Tryz.ntmps68
  go_wp2_with fail
  refine HM.out.mono ?_
  rintro e w1 ⟨rfl, hg⟩
  have HG := Lib.hid hg
  clear hg
  go_wp2
  go_ret
  exact ⟨rfl, HG.out⟩
set_option maxHeartbeats 400000 in
theorem ask_8 (p : Par) (g : Nat) (w : World) (hp : p.ok) (_hT : TabsAt w) (hb : Bk w g 24 p.cells) (h5 : m5 p = true) (h7 : m7 p = true) :
    Calls Tryz.prog 68 #[.func (.func 62) #[] #[.pointer (some ⟨g, 0, none⟩)]] w fun e w' => e = .returned (.bool (!m8 p)) ∧ w.grownBy w' none := by
  have HM := Lib.hid (may_8 p g w hp hb h5 h7)
  clear hp _hT hb h5 h7
  go_enter Tryz.func68, Tryz.ntmps68
  go_wp2_with fail
  refine HM.out.mono ?_
  rintro e w1 ⟨rfl, hg⟩
  have HG := Lib.hid hg
  clear hg
  go_wp2
  go_ret
  exact ⟨rfl, HG.out⟩
set_option maxHeartbeats 400000 in
theorem ask_9 (p : Par) (g : Nat) (w : World) (_hp : p.ok) (hT : TabsAt w) (hb : Bk w g 24 p.cells)  :
    Calls Tryz.prog 68 #[.func (.func 63) #[] #[.pointer (some ⟨g, 0, none⟩)]] w fun e w' => e = .returned (.bool (!m9 p)) ∧ w.grownBy w' none := by
  have HM := Lib.hid (may_9 p g w hT hb)
  clear _hp hT hb
  go_enter Tryz.func68, Tryz.ntmps68
  go_wp2_with fail
  refine HM.out.mono ?_
  rintro e w1 ⟨rfl, hg⟩
  have HG := Lib.hid hg
  clear hg
  go_wp2
  go_ret
  exact ⟨rfl, HG.out⟩
set_option maxHeartbeats 400000 in
theorem ask_10 (p : Par) (g : Nat) (w : World) (hp : p.ok) (_hT : TabsAt w) (hb : Bk w g 24 p.cells)  :
    Calls Tryz.prog 68 #[.func (.func 65) #[] #[.pointer (some ⟨g, 0, none⟩)]] w fun e w' => e = .returned (.bool (!m10 p)) ∧ w.grownBy w' none := by
  have HM := Lib.hid (may_10 p g w hp hb)
  clear hp _hT hb
  go_enter Tryz.func68, Tryz.ntmps68
  go_wp2_with fail
  refine HM.out.mono ?_
  rintro e w1 ⟨rfl, hg⟩
  have HG := Lib.hid hg
  clear hg
  go_wp2
  go_ret
  exact ⟨rfl, HG.out⟩
theorem ask_any (p : Par) (g : Nat) (w : World) (hp : p.ok) (hT : TabsAt w) (hb : Bk w g 24 p.cells) : ∀ (j : Nat) (_h : j < (fvs g).length) (h' : j < (ms p).length), (∀ i (hi : i < j), (ms p)[i]'(by omega) = true) →
    Calls Tryz.prog 68 #[(fvs g)[j]] w fun e w' => e = .returned (.bool (!(ms p)[j])) ∧ w.grownBy w' none
  | 0, _, _, _ => ask_1 p g w hp hT hb
  | 1, _, _, _ => ask_2 p g w hp hT hb
  | 2, _, _, hh => ask_3 p g w hp hT hb (hh 1 (by omega))
  | 3, _, _, _ => ask_4 p g w hp hT hb
  | 4, _, _, _ => ask_5 p g w hp hT hb
  | 5, _, _, _ => ask_6 p g w hp hT hb
  | 6, _, _, _ => ask_7 p g w hp hT hb
  | 7, _, _, hh => ask_8 p g w hp hT hb (hh 4 (by omega)) (hh 6 (by omega))
  | 8, _, _, _ => ask_9 p g w hp hT hb
  | 9, _, _, _ => ask_10 p g w hp hT hb
  | n + 10, h, _, _ => absurd h (by simp [fvs])
theorem mayP_all (p : Par) : mayP p = (ms p).all id := by simp [mayP, ms, Bool.and_assoc]
/-- What IndexFunc tells of the asks. -/
def Found (p : Par) (w : World) (e : Ending) (w' : World) : Prop := ∃ n : Int, e = .returned (.int .i64 n) ∧ decide (0 ≤ n) = !mayP p ∧ w.grownBy w' none
set_option maxHeartbeats 400000 in
theorem index_any (p : Par) (g ga : Nat) (t : TypeId) (w : World) (hp : p.ok) (hT : TabsAt w) (hb : Bk w g 24 p.cells) (ha : Bk w ga t (fvs g).toArray) :
    Calls Tryz.prog 89 #[.slice (some ⟨ga, 0, none⟩) 10 10, .func (.func 68) #[] #[]] w (Found p w) := by
  have HP := Lib.hid hp
  have HT := Lib.hid hT
  have HB := Lib.hid hb
  have HA := Lib.hid ha
  clear hp hT hb ha
  go_enter Tryz.func89, Tryz.ntmps89
  go_wp2_with fail
  go_loopg [8] 10 (fun n s8 wx => ∃ j : Nat, j + n = 10 ∧ s8 = .int .i64 j ∧ Hid (w.grownBy wx none ∧ ∀ i (_ : i < j) (h : i < (ms p).length), (ms p)[i] = true))
  case atStart => exact ⟨0, by omega, rfl, Lib.hid ⟨World.grownBy.refl w none, fun i hi => absurd hi (by omega)⟩⟩
  case round =>
    obtain ⟨j, hj, rfl, HX⟩ := hrel
    cases gk with
    | zero =>
      obtain rfl : j = 10 := by omega
      have HE : Hid (Found p w (.returned (.int .i64 (-1))) wr) := Lib.hid ⟨-1, rfl, by
        have : mayP p = true := by
          rw [mayP_all, List.all_eq_true]
          intro b hb
          obtain ⟨i, hi, rfl⟩ := List.getElem_of_mem hb
          exact HX.out.2 i (by simp [ms] at hi; omega) hi
        rw [this]
        rfl, HX.out.1⟩
      clear HX
      go_wp2
      go_ret
      exact HE.out
    | succ k =>
      have hjn : (j : Int) < 10 := by omega
      have hj1 : j < (fvs g).length := by simp [fvs]; omega
      have hj2 : j < (ms p).length := by simp [ms]; omega
      have hcell : wr.cell? ⟨ga, j, none⟩ = some (fvs g)[j] := by
        rw [(HA.out.grown HX.out.1 (by simp)).cell j, List.getElem?_toArray]
        exact List.getElem?_eq_getElem hj1
      have HC := Lib.hid (ask_any p g wr HP.out (HT.out.kept HX.out.1) (HB.out.grown HX.out.1 (by simp)) j hj1 hj2 (fun i hi => HX.out.2 i hi (by omega)))
      have HV : Hid ((ms p)[j] = true ∨ (ms p)[j] = false) := Lib.hid (by cases (ms p)[j] <;> simp)
      have HR : Hid ((ms p)[j] = true → ∀ i (_ : i < j + 1) (h : i < (ms p).length), (ms p)[i] = true) := Lib.hid (fun h i hi hl => by
        rcases Nat.lt_or_ge i j with h1 | h1
        · exact HX.out.2 i h1 hl
        · obtain rfl : i = j := by omega
          exact h)
      have HN : Hid ((ms p)[j] = false → mayP p = false) := Lib.hid (fun h => by
        rw [mayP_all, Bool.eq_false_iff]
        intro hall
        rw [List.all_eq_true] at hall
        have := hall _ (List.getElem_mem hj2)
        simp [h] at this)
      have HG := Lib.hid HX.out.1
      generalize (fvs g)[j] = fv at *
      generalize (ms p)[j] = b at *
      clear HX hj1 hj2
      rcases HV.out with rfl | rfl
      · go_wp2_with fail
        refine HC.out.mono ?_
        rintro e w1 ⟨rfl, hg⟩
        have HG1 := Lib.hid (HG.out.trans hg)
        clear hg
        go_wp2
        go_roundg k
        case measure => omega
        case rel => exact ⟨j + 1, by omega, by go_num, Lib.hid ⟨HG1.out, HR.out (by simp)⟩⟩
      · have HE : Hid (∀ w1, w.grownBy w1 none → Found p w (.returned (.int .i64 j)) w1) := Lib.hid (fun w1 hg => ⟨j, rfl, by rw [HN.out rfl]; simp, hg⟩)
        go_wp2_with fail
        refine HC.out.mono ?_
        rintro e w1 ⟨rfl, hg⟩
        have HG1 := Lib.hid (HG.out.trans hg)
        clear hg
        go_wp2
        go_ret
        exact HE.out _ HG1.out
set_option maxHeartbeats 400000 in
theorem contains_any (p : Par) (g ga : Nat) (t : TypeId) (w : World) (hp : p.ok) (hT : TabsAt w) (hb : Bk w g 24 p.cells) (ha : Bk w ga t (fvs g).toArray) :
    Calls Tryz.prog 67 #[.slice (some ⟨ga, 0, none⟩) 10 10, .func (.func 68) #[] #[]] w fun e w' => e = .returned (.bool (!mayP p)) ∧ w.grownBy w' none := by
  have HI := Lib.hid (index_any p g ga t w hp hT hb ha)
  clear hp hT hb ha
  go_enter Tryz.func67, Tryz.ntmps67
  go_wp2_with fail
  refine HI.out.mono ?_
  rintro e w1 ⟨n, rfl, hn, hg⟩
  have HN := Lib.hid hn
  have HG := Lib.hid hg
  clear hn hg
  go_wp2
  go_ret
  exact ⟨ret_bool HN.out, HG.out⟩
set_option maxHeartbeats 400000 in
theorem may_any (p : Par) (w : World) (hp : p.ok) (hT : TabsAt w) :
    Calls Tryz.prog 24 #[p.v] w fun e w' => e = .returned (.bool (mayP p)) ∧ w.grownBy w' none := by
  have hg1 : w.grownBy (w.alloc (Obj.cells p.cells 24)) none := World.grownBy_alloc w _ none
  have hg2 := World.grownBy_alloc (w.alloc (Obj.cells p.cells 24)) (Obj.cells (fvs w.heap.size).toArray 26) none
  have HC := Lib.hid (contains_any p w.heap.size (w.heap.size + 1) 26 ((w.alloc (Obj.cells p.cells 24)).alloc (Obj.cells (fvs w.heap.size).toArray 26)) hp (hT.kept (hg1.trans hg2)) ((Bk.new w _ _).alloc _)
    (by have := Bk.new (w.alloc (Obj.cells p.cells 24)) 26 (fvs w.heap.size).toArray; rwa [World.size_alloc] at this))
  have HGR := Lib.hid (hg1.trans hg2)
  clear hp hT hg1 hg2
  unfold fvs at HC HGR
  go_enter Tryz.func24, Tryz.ntmps24
  go_wp2_with fail
  refine HC.out.mono ?_
  rintro e w1 ⟨rfl, hg⟩
  have HG := Lib.hid (HGR.out.trans hg)
  clear hg
  go_wp2
  go_ret
  exact ⟨ret_bool (by simp), HG.out⟩
end Go.Proofs.YthicondcjeipfaaGreatDoor

namespace Go.Proofs.YthicondcjeipfaaGreatDoor
open Go.RowKit

end Go.Proofs.YthicondcjeipfaaGreatDoor

namespace Go.Proofs.YthicondcjeipfaaGreatDoor
open Go.RowKit

theorem hasInv_of {a m x : Int} (hm : 0 < m) (h : Cg m (a * x) 1) : HasInv a m :=
  ⟨x % m, Int.emod_nonneg _ (by omega), Int.emod_lt_of_pos _ hm, ((Cg.mod m x).mul_left a).trans h⟩
theorem hasInv_mul {a b m : Int} (hm : 0 < m) (h : HasInv a m) (k : HasInv b m) : HasInv (a * b) m := by
  obtain ⟨x, _, _, hx⟩ := h
  obtain ⟨y, _, _, hy⟩ := k
  refine hasInv_of hm (x := x * y) ((Cg.of_eq ?_).trans (hx.mul hy))
  rw [Int.mul_assoc, Int.mul_assoc, ← Int.mul_assoc b, Int.mul_comm b x, Int.mul_assoc]
theorem hasInv_lin {a q k x : Int} (hq : 0 < q) (h : a * x = k * q + 1) : HasInv a q := hasInv_of hq (x := x) (Cg.of_dvd ⟨k, by rw [h, Int.mul_comm]; omega⟩)
theorem hasInv_two {q : Int} (hq : 0 < q) (h : q % 2 ≠ 0) : HasInv 2 q := hasInv_lin hq (k := 1) (x := (q + 1) / 2) (by omega)
theorem hasInv_three {q : Int} (hq : 0 < q) (h : q % 3 ≠ 0) : HasInv 3 q := by
  have h3 : q % 3 = 1 ∨ q % 3 = 2 := by omega
  rcases h3 with h3 | h3
  · exact hasInv_lin hq (k := 2) (x := (2 * q + 1) / 3) (by omega)
  · exact hasInv_lin hq (k := 1) (x := (q + 1) / 3) (by omega)
theorem hasInv_five {q : Int} (hq : 0 < q) (h : q % 5 ≠ 0) : HasInv 5 q := by
  have h5 : q % 5 = 1 ∨ q % 5 = 2 ∨ q % 5 = 3 ∨ q % 5 = 4 := by omega
  rcases h5 with h5 | h5 | h5 | h5
  · exact hasInv_lin hq (k := 4) (x := (4 * q + 1) / 5) (by omega)
  · exact hasInv_lin hq (k := 2) (x := (2 * q + 1) / 5) (by omega)
  · exact hasInv_lin hq (k := 3) (x := (3 * q + 1) / 5) (by omega)
  · exact hasInv_lin hq (k := 1) (x := (q + 1) / 5) (by omega)
/-- Numbers from 1 to below n have inverses. -/
def Apart (q : Int) (n : Int) : Prop := ∀ d, 1 ≤ d → d < n → HasInv d q
theorem prime_small {q : Int} (h : primeB q = true) : (q % 2 = 0 → q = 2) ∧ (q % 3 = 0 → q = 3 ∨ q % 2 = 0) ∧ (q % 5 = 0 → q = 5 ∨ q % 2 = 0 ∨ q % 3 = 0) := by
  unfold primeB at h
  split at h
  · cases h
  · unfold triedL at h
    refine ⟨fun h2 => ?_, fun h3 => ?_, fun h5 => ?_⟩
    · simp only [goB, h2, if_true] at h
      simpa using h
    · by_cases h2 : q % 2 = 0
      · exact .inr h2
      · simp only [goB, h2, if_false, h3, if_true] at h
        left
        split at h
        · simpa using h
        · cases h
    · by_cases h2 : q % 2 = 0
      · exact .inr (.inl h2)
      · by_cases h3 : q % 3 = 0
        · exact .inr (.inr h3)
        · simp only [goB, h2, if_false, h3, h5, if_true] at h
          left
          split at h
          · split at h
            · simpa using h
            · cases h
          · cases h
theorem may_apart {p : Par} (h : mayP p = true) : mayB p.Q = true ∧ mayB p.P = true ∧ Apart p.Q p.N ∧ 4 ≤ p.N ∧ p.N ≤ 7 ∧ p.N < p.Q ∧ 1 ≤ p.T ∧ p.T ≤ 2 ∧ 3 * p.T + 1 ≤ p.N ∧ smallB p = true ∧ 1 ≤ p.K ∧ 1 ≤ p.D := by
  simp only [mayP, m1, m2, m3, m5, m9, Bool.and_eq_true, withinB_iff, decide_eq_true_eq] at h
  obtain ⟨⟨⟨⟨⟨⟨⟨⟨⟨a1, a2⟩, a3⟩, _⟩, a5⟩, _⟩, _⟩, _⟩, a9⟩, _⟩ := h
  obtain ⟨⟨⟨p1, p2⟩, q1⟩, pq⟩ := a1
  obtain ⟨t1, t2⟩ := a2
  obtain ⟨⟨n1, n2⟩, n3⟩ := a3
  obtain ⟨⟨k1, k2⟩, d1, d2⟩ := a5
  obtain ⟨hq, hp⟩ := a9
  have hQ : p.Q ≤ 2305843009213693952 := by
    unfold primeB at hq
    split at hq
    · cases hq
    · omega
  obtain ⟨s2, s3, s5⟩ := prime_small hq
  have hq0 : 0 < p.Q := by omega
  have i2 : HasInv 2 p.Q := hasInv_two hq0 fun e => by have := s2 e; omega
  have i3 : HasInv 3 p.Q := hasInv_three hq0 fun e => by
    rcases s3 e with e | e
    · omega
    · have := s2 e; omega
  have i1 : HasInv 1 p.Q := hasInv_lin hq0 (k := 0) (x := 1) (by omega)
  refine ⟨by simp [mayB]; omega, by simp [mayB]; omega, fun d e1 e2 => ?_, by omega, n2, n3, t1, t2, n1, by simp [smallB]; omega, k1, d1⟩
  have hd : d = 1 ∨ d = 2 ∨ d = 3 ∨ d = 4 ∨ d = 5 ∨ d = 6 := by omega
  rcases hd with rfl | rfl | rfl | rfl | rfl | rfl
  · exact i1
  · exact i2
  · exact i3
  · exact hasInv_mul hq0 i2 i2
  · refine hasInv_five hq0 fun e => ?_
    rcases s5 e with e | e | e
    · omega
    · have := s2 e; omega
    · rcases s3 e with e | e
      · omega
      · have := s2 e; omega
  · exact hasInv_mul hq0 i2 i3
theorem mayB_pos {q : Int} (hq : mayB q = true) : 0 < q := by simp [mayB] at hq; exact hq.1
/-- Places from 1 to n, each once. -/
def Places (n : Int) (xs : List Int) : Prop := (∀ x ∈ xs, 1 ≤ x ∧ x ≤ n) ∧ xs.Nodup
end Go.Proofs.YthicondcjeipfaaGreatDoor

namespace Go.Proofs.YthicondcjeipfaaGreatDoor
open Go.RowKit

end Go.Proofs.YthicondcjeipfaaGreatDoor

namespace Go.Proofs.YthicondcjeipfaaGreatDoor
open Go.RowKit

theorem nodup_le : ∀ (l s : List Int), l.Nodup → (∀ x ∈ l, x ∈ s) → l.length ≤ s.length
  | [], _, _, _ => Nat.zero_le _
  | x :: l, s, hn, hs => by
    obtain ⟨h1, h2⟩ := List.nodup_cons.1 hn
    have hx := hs x (by simp)
    have := nodup_le l (s.erase x) h2 fun y hy => (List.mem_erase_of_ne (fun e => h1 (by rw [← e]; exact hy))).2 (hs y (by simp [hy]))
    rw [List.length_erase_of_mem hx] at this
    have h3 := List.length_pos_of_mem hx
    simp only [List.length_cons]
    omega
theorem Places.len {n : Int} {xs : List Int} (h : Places n xs) (hn : n ≤ 7) : xs.length ≤ 7 := by
  refine nodup_le xs [1, 2, 3, 4, 5, 6, 7] h.2 fun x hx => ?_
  · skip
    have := h.1 x hx
    have : x = 1 ∨ x = 2 ∨ x = 3 ∨ x = 4 ∨ x = 5 ∨ x = 6 ∨ x = 7 := by omega
    rcases this with rfl | rfl | rfl | rfl | rfl | rfl | rfl <;> simp
end Go.Proofs.YthicondcjeipfaaGreatDoor

namespace Go.Proofs.YthicondcjeipfaaGreatDoor

end Go.Proofs.YthicondcjeipfaaGreatDoor

namespace Go.Proofs.YthicondcjeipfaaGreatDoor

end Go.Proofs.YthicondcjeipfaaGreatDoor

namespace Go.Proofs.YthicondcjeipfaaGreatDoor
open Go Go.RowKit

theorem ret_i64 {a b : Int} (h : a = b) : Ending.returned (.int .i64 a) = .returned (.int .i64 b) := by rw [h]
/-- The value of a list of coefficients, the highest one first. -/
def evalGo (q x : Int) (l : List Int) (o : Int) : Int := l.foldl (fun o y => addI (mulI o x q) y q) o
def evalI (q : Int) (c : List Int) (x : Int) : Int := evalGo q x c.reverse 0
theorem evalGo_U64 (q x : Int) : ∀ (l : List Int) (o : Int), U64 o → U64 (evalGo q x l o)
  | [], _, h => h
  | _ :: l, _, _ => evalGo_U64 q x l _ (addI_U64 _ _ _)
theorem evalI_U64 (q : Int) (c : List Int) (x : Int) : U64 (evalI q c x) := evalGo_U64 q x _ _ ⟨by decide, by decide⟩
theorem evalGo_snoc (q x : Int) (l : List Int) (j : Nat) (h : j < l.length) (o : Int) : evalGo q x (l.take (j + 1)) o = addI (mulI (evalGo q x (l.take j) o) x q) l[j] q := by
  unfold evalGo
  rw [List.take_succ_eq_append_getElem h, List.foldl_append]
  rfl
theorem reverse_at (l : List Int) (j : Nat) (h : j < l.length) : l.reverse[j]'(by simpa using h) = l[l.length - 1 - j]'(by omega) := by simp
set_option maxRecDepth 100000 in
set_option maxHeartbeats 2000000 in
theorem eval_any (v : Value) (l : List Int) (x q : Int) (X : Nat → Prop) (w : World) (h : Sl encU X w v l) (hx : U64 x) :
    Calls Tryz.prog 37 #[v, .int .u64 x, .int .u64 q] w fun e w' => e = .returned (.int .u64 (evalI q l x)) ∧ w.grownBy w' none := by
  have H := Lib.hid h
  have HX := Lib.hid hx
  obtain ⟨A, c, rfl, hc1, hc2⟩ := h.form
  have HST : Hid (w.grownBy w none ∧ U64 0 ∧ (0 : Int) = evalGo q x (l.reverse.take 0) 0) := Lib.hid ⟨World.grownBy.refl w none, ⟨by decide, by decide⟩, rfl⟩
  clear h hx
  obtain ⟨n, hn⟩ : ∃ n, n = l.length := ⟨_, rfl⟩
  have HN := Lib.hid hn
  rw [← hn] at hc1 ⊢
  have hn9 : (n : Int) ≤ 9223372036854775807 := by omega
  clear hn
  go_enter Tryz.func37, Tryz.ntmps37
  go_wp2_with fail
  go_loopg [7, 11] n (fun g s7 s11 wx => ∃ (j : Nat) (o : Int), j + g = n ∧ s11 = .int .i64 j ∧ s7 = .int .u64 o ∧ Hid (w.grownBy wx none ∧ U64 o ∧ o = evalGo q x (l.reverse.take j) 0))
  case atStart => exact ⟨0, 0, by omega, rfl, rfl, HST⟩
  case round =>
    obtain ⟨j, o, hj, rfl, rfl, HR⟩ := hrel
    cases gk with
    | zero =>
      obtain rfl : j = n := by omega
      have HE : Hid (o = evalI q l x) := Lib.hid (by rw [HR.out.2.2, HN.out, evalI, List.take_of_length_le (by simp)])
      have HG := Lib.hid HR.out.1
      clear HR HST
      go_wp2
      go_ret
      exact ⟨ret_u64 HE.out, HG.out⟩
    | succ m =>
      have hjn : (j : Int) < (n : Int) := by omega
      have hjN : j < l.length := by rw [← HN.out]; omega
      obtain ⟨r, hr⟩ : ∃ r, r + j + 1 = n := ⟨m, by omega⟩
      have hrl : r < l.length := by rw [← HN.out]; omega
      obtain ⟨g, of, c', e, _, _, hcu, hu⟩ := (H.out.kept HR.out.1).atU hrl
      injection e with e1 e2 e3
      subst e1 e3
      have HGd : Hid (w.grownBy wr.drew none) := Lib.hid (grownBy_drewN HR.out.1 1)
      have HC0 := Lib.hid (fun (w' : World) (hw : wr.drew.grownBy w' none) => (H.out.kept (HGd.out.trans hw)).atU hrl)
      have HC : Hid (∀ w', wr.drew.grownBy w' none → w'.cell? ⟨g, of + r, none⟩ = some (.int .u64 l[r])) := Lib.hid (fun w' hw => by
        obtain ⟨g2, of2, c2, e2, _, _, h3, _⟩ := HC0.out w' hw
        injection e2 with e21 e22 e23
        injection e21 with e21
        injection e21 with e24 e25
        subst e24 e25
        exact h3)
      have HY := Lib.hid hu
      have HO := Lib.hid HR.out.2.1
      have HSN : Hid (addI (mulI o x q) l[r] q = evalGo q x (l.reverse.take (j + 1)) 0) := Lib.hid (by
        rw [evalGo_snoc q x l.reverse j (by simpa using hjN), reverse_at l j hjN, ← HR.out.2.2]
        congr 2
        have := HN.out
        omega)
      have e4 : IntKind.i64.wrap ((n : Int) - 1) = (n : Int) - 1 := IntWalk.i64_in _ (by omega)
      have e5 : IntKind.i64.wrap ((n : Int) - 1 - (j : Int)) = (r : Int) := by rw [IntWalk.i64_in _ (by omega)]; omega
      have hr0 : (0 : Int) ≤ (r : Int) := by omega
      have hrn : (r : Int) < (n : Int) := by omega
      clear hcu hu HC0 HR HST e2
      generalize l[r] = y at *
      go_wp2_with fail
      refine wp_region_mono 15 (by kernel_rfl) (by kernel_rfl) ?_
      -- op 0 (slot 14): move
      refine MonoR.step (Pv.eq (.int .u64 o)) [] (by kernel_rfl) (fun w' hw' => ?_) ?_
      · refine ask_do rfl fun K hK => ?_
        go_simp
        exact hK _ _ rfl rfl (World.grownBy.refl _ none)
      -- op 1 (slot 15): move
      refine MonoR.step (Pv.eq (.int .u64 x)) [] (by kernel_rfl) (fun w' hw' => ?_) ?_
      · refine ask_do rfl fun K hK => ?_
        go_simp
        exact hK _ _ rfl rfl (World.grownBy.refl _ none)
      -- op 2 (slot 16): move
      refine MonoR.step (Pv.eq (.int .u64 q)) [] (by kernel_rfl) (fun w' hw' => ?_) ?_
      · refine ask_do rfl fun K hK => ?_
        go_simp
        exact hK _ _ rfl rfl (World.grownBy.refl _ none)
      -- op 3 (slot 17): call
      refine MonoR.step (Pv.eq (.int .u64 (mulI o x q))) [(0, 14), (1, 15), (2, 16)] (by kernel_rfl) (fun w' hw' => ?_) ?_
      · rintro _ rfl
        rintro _ rfl
        rintro _ rfl
        refine ask_do rfl fun K hK => ?_
        go_simp
        refine (mul_gr o x q w' HO.out HX.out).mono ?_
        rintro e w3 ⟨rfl, hg⟩
        exact hK _ _ rfl rfl hg
      -- op 4 (slot 18): move
      refine MonoR.step (Pv.eq (.slice (some ⟨g, of, none⟩) n c)) [] (by kernel_rfl) (fun w' hw' => ?_) ?_
      · refine ask_do rfl fun K hK => ?_
        go_simp
        exact hK _ _ rfl rfl (World.grownBy.refl _ none)
      -- op 5 (slot 19): move
      refine MonoR.step (Pv.eq (.slice (some ⟨g, of, none⟩) n c)) [] (by kernel_rfl) (fun w' hw' => ?_) ?_
      · refine ask_do rfl fun K hK => ?_
        go_simp
        exact hK _ _ rfl rfl (World.grownBy.refl _ none)
      -- op 6 (slot 20): call
      refine MonoR.step (Pv.eq (.int .i64 (n : Int))) [(5, 19)] (by kernel_rfl) (fun w' hw' => ?_) ?_
      · rintro _ rfl
        refine ask_do rfl fun K hK => ?_
        go_simp
        exact hK _ _ rfl rfl (World.grownBy.refl _ none)
      -- op 7 (slot 21): binOp
      refine MonoR.step (Pv.eq (.int .i64 ((n : Int) - 1))) [(6, 20)] (by kernel_rfl) (fun w' hw' => ?_) ?_
      · rintro _ rfl
        refine ask_do rfl fun K hK => ?_
        go_simp
        exact hK _ _ rfl rfl (World.grownBy.refl _ none)
      -- op 8 (slot 22): move
      refine MonoR.step (Pv.eq (.int .i64 (j : Int))) [] (by kernel_rfl) (fun w' hw' => ?_) ?_
      · refine ask_do rfl fun K hK => ?_
        go_simp
        exact hK _ _ rfl rfl (World.grownBy.refl _ none)
      -- op 9 (slot 23): binOp
      refine MonoR.step (Pv.eq (.int .i64 (r : Int))) [(7, 21), (8, 22)] (by kernel_rfl) (fun w' hw' => ?_) ?_
      · rintro _ rfl
        rintro _ rfl
        refine ask_do rfl fun K hK => ?_
        go_simp
        exact hK _ _ rfl rfl (World.grownBy.refl _ none)
      -- op 10 (slot 24): indexAddr
      refine MonoR.step (Pv.eq (.pointer (some ⟨g, of + r, none⟩))) [(4, 18), (9, 23)] (by kernel_rfl) (fun w' hw' => ?_) ?_
      · rintro _ rfl
        rintro _ rfl
        refine ask_do rfl fun K hK => ?_
        go_simp
        exact hK _ _ rfl rfl (World.grownBy.refl _ none)
      -- op 11 (slot 25): load
      refine MonoR.step (Pv.eq (.int .u64 y)) [(10, 24)] (by kernel_rfl) (fun w' hw' => ?_) ?_
      · rintro _ rfl
        refine ask_do rfl fun K hK => ?_
        have hc := HC.out w' hw'
        go_simp
        exact hK _ _ rfl rfl (World.grownBy.refl _ none)
      -- op 12 (slot 26): move
      refine MonoR.step (Pv.eq (.int .u64 q)) [] (by kernel_rfl) (fun w' hw' => ?_) ?_
      · refine ask_do rfl fun K hK => ?_
        go_simp
        exact hK _ _ rfl rfl (World.grownBy.refl _ none)
      -- op 13 (slot 27): call
      refine MonoR.step (Pv.eq (.int .u64 (addI (mulI o x q) y q))) [(3, 17), (11, 25), (12, 26)] (by kernel_rfl) (fun w' hw' => ?_) ?_
      · rintro _ rfl
        rintro _ rfl
        rintro _ rfl
        refine ask_do rfl fun K hK => ?_
        go_simp
        refine (add_gr (mulI o x q) y q w' (mulI_U64 _ _ _) HY.out).mono ?_
        rintro e w3 ⟨rfl, hg⟩
        exact hK _ _ rfl rfl hg
      -- op 14 (slot 7): assign
      refine MonoR.step (Pv.eq (.int .u64 (addI (mulI o x q) y q))) [(13, 27)] (by kernel_rfl) (fun w' hw' => ?_) ?_
      · rintro _ rfl
        refine ask_do rfl fun K hK => ?_
        go_simp
        exact hK _ _ rfl rfl (World.grownBy.refl _ none)
      intro w3 hw3
      iterate 14 (intro _ _)
      rintro _ rfl
      have HE : Hid (w.grownBy w3 none ∧ U64 (addI (mulI o x q) y q) ∧ addI (mulI o x q) y q = evalGo q x (l.reverse.take (j + 1)) 0) := Lib.hid ⟨HGd.out.trans hw3, addI_U64 _ _ _, HSN.out⟩
      clear hw3 e4 e5
      refine wpList_nil ?_
      simp only [Act.put, List.setIfInBounds_toArray, List.set_cons_zero, List.set_cons_succ]
      go_wp2_with fail
      go_roundg m
      case measure => omega
      case rel => exact ⟨j + 1, _, by omega, by go_num, rfl, HE⟩
set_option maxHeartbeats 400000 in
theorem wide_any (v : Value) (l : List (List Int)) (X : Nat → Prop) (w : World) (h : Sl (encS encU) X w v l) (hb2 : ∀ c ∈ l, c.length ≤ 100000) :
    Calls Tryz.prog 73 #[v] w fun e w' => e = .returned (.int .i64 (wideI l : Nat)) ∧ w' = w := by
  have H := Lib.hid h
  have HB2 := Lib.hid hb2
  obtain ⟨A, c, rfl, hc1, hc2⟩ := h.form
  have HN0 : Hid (0 = wideI (l.take 0)) := Lib.hid rfl
  clear h hb2
  go_enter Tryz.func73, Tryz.ntmps73
  go_wp2_with fail
  go_loopg [3, 8] l.length (fun g s3 s8 wx => ∃ j n : Nat, j + g = l.length ∧ s8 = .int .i64 j ∧ s3 = .int .i64 n ∧ Hid (n = wideI (l.take j)) ∧ Hid (wx = w))
  case atStart => exact ⟨0, 0, by omega, rfl, rfl, HN0, Lib.hid rfl⟩
  case round =>
    obtain ⟨j, n, hj, rfl, rfl, HN, HX⟩ := hrel
    obtain rfl : wr = w := HX.out
    cases gk with
    | zero =>
      obtain rfl : j = l.length := by omega
      have HNW : Hid (n = wideI l) := Lib.hid (by have := HN.out; rwa [List.take_length] at this)
      clear HX HN
      go_wp2
      go_ret
      exact ⟨ret_i64 (by rw [HNW.out]), rfl⟩
    | succ m =>
      have hjn : (j : Int) < (l.length : Int) := by omega
      have hjN : j < l.length := by omega
      obtain ⟨g, o, c', u, e, _, _, hcu, hsu⟩ := H.out.atS hjN
      injection e with e1 e2 e3
      subst e1 e3
      obtain ⟨A1, c1, e1, _, _⟩ := hsu.form
      subst e1
      have HSN : Hid (wideI (l.take (j + 1)) = max n l[j].length) := Lib.hid (by rw [wide_snoc l j hjN, HN.out])
      have hnb : n ≤ 100000 := by rw [HN.out]; exact wide_le _ _ (fun c hc => HB2.out c (List.mem_of_mem_take hc))
      have hlb : l[j].length ≤ 100000 := HB2.out _ (List.getElem_mem hjN)
      clear hsu e2 HN
      generalize l[j].length = n1 at *
      go_wp2_with fail
      all_goals
        go_roundg m
        case measure => omega
        case rel => exact ⟨j + 1, max n n1, by omega, by go_num, by congr 1; omega, Lib.hid HSN.out.symm, Lib.hid rfl⟩
end Go.Proofs.YthicondcjeipfaaGreatDoor

namespace Go.Proofs.YthicondcjeipfaaGreatDoor
open Go Go.RowKit

/-- Three lists built side by side. -/
structure Tri {α β γ : Type} (E : Enc α) (F : Enc β) (G : Enc γ) (base : Nat) (e f g : TypeId) (Z : Nat → Prop) (w : World) (v u t : Value) (xs : List α) (ys : List β) (zs : List γ) : Prop where
  fst : Acc E base e (fun b => Z b ∧ some b ≠ u.ownBlock ∧ some b ≠ t.ownBlock) w v xs
  snd : Acc F base f (fun b => Z b ∧ some b ≠ v.ownBlock ∧ some b ≠ t.ownBlock) w u ys
  trd : Acc G base g (fun b => Z b ∧ some b ≠ v.ownBlock ∧ some b ≠ u.ownBlock) w t zs
section
variable {α β γ : Type} {E : Enc α} {F : Enc β} {G : Enc γ} {base : Nat} {e f g : TypeId} {Z : Nat → Prop} {w w' : World} {v u t v' u' t' : Value} {xs xs' : List α} {ys ys' : List β} {zs zs' : List γ}
theorem Tri.kept (h : Tri E F G base e f g Z w v u t xs ys zs) (hg : w.grownBy w' none) : Tri E F G base e f g Z w' v u t xs ys zs := ⟨h.fst.kept hg, h.snd.kept hg, h.trd.kept hg⟩
theorem Tri.rot (h : Tri E F G base e f g Z w v u t xs ys zs) : Tri F G E base f g e Z w u t v ys zs xs := ⟨h.snd.more fun _ _ x => ⟨x.1, x.2.2, x.2.1⟩, h.trd.more fun _ _ x => ⟨x.1, x.2.2, x.2.1⟩, h.fst⟩
theorem Tri.one (h : Tri E F G base e f g Z w v u t xs ys zs) (ha : Acc E base e (fun b => Z b ∧ some b ≠ u.ownBlock ∧ some b ≠ t.ownBlock) w' v' xs') (hg : w.grownBy w' v.ownBlock) (hm : Moved w v v') : Tri E F G base e f g Z w' v' u t xs' ys zs := by
  have k : ∀ b, b < w.heap.size → some b ≠ v.ownBlock → some b ≠ v'.ownBlock := fun b hb hx e => hm.ne hb (fun e' => hx e'.symm) e.symm
  refine ⟨ha, ?_, ?_⟩
  · have h1 : Acc F base f (fun b => (Z b ∧ some b ≠ v'.ownBlock ∧ some b ≠ t.ownBlock) ∧ some b ≠ v.ownBlock) w u ys := h.snd.more fun b hb hx => ⟨⟨hx.1, k b hb hx.2.1, hx.2.2⟩, hx.2.1⟩
    exact (h1.keep hg fun g hx => hx.2).more fun g _ hx => hx.1
  · have h1 : Acc G base g (fun b => (Z b ∧ some b ≠ v'.ownBlock ∧ some b ≠ u.ownBlock) ∧ some b ≠ v.ownBlock) w t zs := h.trd.more fun b hb hx => ⟨⟨hx.1, k b hb hx.2.1, hx.2.2⟩, hx.2.1⟩
    exact (h1.keep hg fun g hx => hx.2).more fun g _ hx => hx.1
theorem Tri.two (h : Tri E F G base e f g Z w v u t xs ys zs) (ha : Acc F base f (fun b => Z b ∧ some b ≠ v.ownBlock ∧ some b ≠ t.ownBlock) w' u' ys') (hg : w.grownBy w' u.ownBlock) (hm : Moved w u u') : Tri E F G base e f g Z w' v u' t xs ys' zs := ((h.rot.one (ha.more fun _ _ x => ⟨x.1, x.2.2, x.2.1⟩) hg hm).rot.rot)
theorem Tri.three (h : Tri E F G base e f g Z w v u t xs ys zs) (ha : Acc G base g (fun b => Z b ∧ some b ≠ v.ownBlock ∧ some b ≠ u.ownBlock) w' t' zs') (hg : w.grownBy w' t.ownBlock) (hm : Moved w t t') : Tri E F G base e f g Z w' v u t' xs ys zs' := ((h.rot.rot.one (ha.more fun _ _ x => x) hg hm).rot)
theorem Tri.nil (E : Enc α) (F : Enc β) (G : Enc γ) (base : Nat) (e f g : TypeId) (Z : Nat → Prop) (w : World) : Tri E F G base e f g Z w (.slice none 0 0) (.slice none 0 0) (.slice none 0 0) [] [] [] := ⟨Acc.nil _ _ _ _ _, Acc.nil _ _ _ _ _, Acc.nil _ _ _ _ _⟩
theorem Tri.new1 (h : Tri E F G base e f g Z w v u t xs ys zs) (hZ : ∀ b, w.heap.size ≤ b → Z b) : ∀ b, w.heap.size ≤ b → Z b ∧ some b ≠ u.ownBlock ∧ some b ≠ t.ownBlock := fun b hb => ⟨hZ b hb, fun e => by have := (h.snd.lt b e.symm).2; omega, fun e => by have := (h.trd.lt b e.symm).2; omega⟩
theorem Tri.new2 (h : Tri E F G base e f g Z w v u t xs ys zs) (hZ : ∀ b, w.heap.size ≤ b → Z b) : ∀ b, w.heap.size ≤ b → Z b ∧ some b ≠ v.ownBlock ∧ some b ≠ t.ownBlock := fun b hb => ⟨hZ b hb, fun e => by have := (h.fst.lt b e.symm).2; omega, fun e => by have := (h.trd.lt b e.symm).2; omega⟩
end
end Go.Proofs.YthicondcjeipfaaGreatDoor

namespace Go.Proofs.YthicondcjeipfaaGreatDoor
open Go.RowKit

/-- What member i has of a dealing. -/
def dealtI (p : Par) (F R : List (List Int)) (i : Int) : List (Int × Int) := (List.range F.length).map fun s => (evalI p.Q (F[s]?.getD []) i, evalI p.Q (R[s]?.getD []) i)
end Go.Proofs.YthicondcjeipfaaGreatDoor

namespace Go.Proofs.YthicondcjeipfaaGreatDoor
open Go Go.RowKit Go.Shelf

/-- The polynomials that are drawn, from the k-th draw on: of a secret, and its blinder. -/
def dealF (l : List Int) (q : Int) (dr : Nat → Int) (T k s : Nat) : List Int := behI (l[s]?.getD 0) q dr T (k + s * (2 * T + 1))
def dealR (q : Int) (dr : Nat → Int) (T k s : Nat) : List Int := behI (dr (k + s * (2 * T + 1) + T)) q dr T (k + s * (2 * T + 1) + T + 1)
def dealFs (l : List Int) (q : Int) (dr : Nat → Int) (T k n : Nat) : List (List Int) := (List.range n).map (dealF l q dr T k)
def dealRs (q : Int) (dr : Nat → Int) (T k n : Nat) : List (List Int) := (List.range n).map (dealR q dr T k)
theorem dsnoc {α : Type} (f : Nat → α) (n : Nat) : (List.range (n + 1)).map f = (List.range n).map f ++ [f n] := by simp [List.range_succ]
/-- A slice of one pair in a block made since n. -/
def BlkP (n : Nat) (a b : Int) (v : Value) (w : World) : Prop := ∃ g, v = .slice (some ⟨g, 0, none⟩) 1 1 ∧ n ≤ g ∧ Bk w g 38 #[.int .u64 a, .int .u64 b]
theorem Bk.two {w : World} {b : Nat} {t : TypeId} {u v : Value} (h : Bk w b t #[u, v]) : ∀ j x, [u, v][j]? = some x → w.cell? ⟨b, j, none⟩ = some x := fun j x hv => by rw [h.cell j]; simpa using hv
/-- Where the worlds stand while a pair is put to a share. -/
def evLt (wi : World) (base N : Nat) (v : Value) (xs : List (Int × Int)) (y : Int × Int) : Lt where
  C vs W := wi.grownBy W v.ownBlock ∧ N ≤ W.heap.size ∧ match vs with
    | [] => Acc encP base 38 (fun g => base ≤ g) W v xs
    | [u] => Acc encP base 38 (fun g => base ≤ g) W u (xs ++ [y])
    | _ => False
  R _ _ _ := True
  g := fun {vs X Y} ⟨h1, h2, h3⟩ hg => ⟨h1.trans (hg.but _), Nat.le_trans h2 hg.size, by
    match vs, h3 with
    | [], h3 => exact h3.kept hg
    | [_], h3 => exact h3.kept hg⟩
def evP {wi : World} {base N0 : Nat} {v0 : Value} {xs : List (Int × Int)} {y : Int × Int} (N : Nat) (a b : Int) : Qv (evLt wi base N0 v0 xs y) where
  p vs v W := vs = [] → BlkP N a b v W
  fr := 0
  st := fun h hg e => by
    obtain ⟨g, e1, hb, hk⟩ := h e
    exact ⟨g, e1, hb, hk.grown hg (by simp)⟩
  sr := fun _ _ _ _ e => absurd e (by simp)
/-- The pairs of member i + 1 up to secret s. -/
def evsI (p : Par) (F R : List (List Int)) (i s : Nat) : List (Int × Int) := (List.range s).map fun k => (evalI p.Q (F[k]?.getD []) ((i : Int) + 1), evalI p.Q (R[k]?.getD []) ((i : Int) + 1))
theorem evsI_succ (p : Par) (F R : List (List Int)) (i s : Nat) : evsI p F R i (s + 1) = evsI p F R i s ++ [(evalI p.Q (F[s]?.getD []) ((i : Int) + 1), evalI p.Q (R[s]?.getD []) ((i : Int) + 1))] := dsnoc _ _
theorem evsI_all (p : Par) (F R : List (List Int)) (i : Nat) : evsI p F R i F.length = dealtI p F R ((i : Int) + 1) := rfl
set_option maxRecDepth 100000 in
set_option maxHeartbeats 8000000 in
theorem dmodel_new (p : Par) (vl : Value) (l : List Int) (X : Nat → Prop) (w : World) {g : Nat} {dr : Nat → Int} {TI : Nat → World → Prop} {bl : Nat → Prop} {most : Nat} (hT : Tp g p.Q dr TI bl most) (hp : p.ok) (hm : mayP p = true) (hTab : TabsAt w) (h : Sl encU X w vl l) (hX : ∀ b, X b → b ≠ g) (hl : (l.length : Int) = secretsI p) (k0 T : Nat) (hTT : (T : Int) = p.T) (hI : TI k0 w) (hmost : k0 + l.length * (2 * T + 1) ≤ most) :
    Calls Tryz.prog 15 #[p.v, vl, .pointer (some ⟨g, 0, none⟩)] w fun e w' => ∃ vs vc, e = .returned (.tuple #[vs, vc, .int .i64 0]) ∧ Sl (encS encP) (fun b => w.heap.size ≤ b) w' vs ((List.range p.N.toNat).map fun i : Nat => dealtI p (dealFs l p.Q dr T k0 l.length) (dealRs p.Q dr T k0 l.length) ((i : Int) + 1)) ∧ Sl (encS encU) (fun b => w.heap.size ≤ b) w' vc (comsI p (dealFs l p.Q dr T k0 l.length) (dealRs p.Q dr T k0 l.length)) ∧ TI (k0 + l.length * (2 * T + 1)) w' ∧ w.grownBy w' (some g) := by
  have HT := Lib.hid hT
  have HP := Lib.hid hp
  have HX := Lib.hid hX
  obtain ⟨hq, _, _, n1, n2, n3, t1, t2, t3, hs, kk1, dd1⟩ := may_apart hm
  have hsec := smallB_secrets hs
  have HQ : Hid (U64 p.Q ∧ 0 < p.Q) := Lib.hid ⟨hp.Q, mayB_pos hq⟩
  have hL10 : l.length ≤ 10 := by omega
  have hT2 : T ≤ 2 := by omega
  obtain ⟨N, hN⟩ : ∃ k : Nat, (k : Int) = p.N := ⟨p.N.toNat, by omega⟩
  have hNt : p.N.toNat = N := by omega
  have hN7 : N ≤ 7 := by omega
  have HN := Lib.hid hN
  obtain ⟨A, c, rfl, hl1, hl2⟩ := h.form
  have hGW : g < w.heap.size := hT.old hI hT.own
  have HGW := Lib.hid hGW
  have HOB : Hid (∀ b, bl b → b < w.heap.size) := Lib.hid (fun b hb => hT.old hI hb)
  obtain ⟨w0, hw0⟩ : ∃ y, y = w.alloc (Obj.cells p.cells 24) := ⟨_, rfl⟩
  have HG0 : Hid (w.grownBy w0 none) := Lib.hid (by rw [hw0]; exact World.grownBy_alloc w _ none)
  have HB0 : Hid (Bk w0 w.heap.size 24 p.cells) := Lib.hid (by rw [hw0]; exact Bk.new w _ _)
  have HI0 : Hid (TI k0 w0) := Lib.hid (hT.keep hI HG0.out (by simp))
  have HMY := Lib.hid (fun (w' : World) (hg : w0.grownBy w' none) => may_any p w' hp (hTab.kept (HG0.out.trans hg)))
  rw [hm] at HMY
  have HMAY := Lib.hid hm
  have HSEC := Lib.hid (dsecrets_any p)
  rw [← hl] at HSEC
  have HL := Lib.hid (h.kept HG0.out)
  have HTP := Lib.hid hTT
  have HMO := Lib.hid hmost
  have HLS := Lib.hid hl
  rw [hNt]
  clear hT hp hX hq n1 n2 n3 t1 t2 t3 hs kk1 dd1 hsec hm hTab h hI hTT hmost hl hGW hN hNt
  go_enter Tryz.func15, Tryz.ntmps15
  go_wp2_with fail
  rw [← hw0]
  have hp0 := HB0.out.prule
  clear hw0
  go_wp2_with fail
  refine (HMY.out _ (World.grownBy.refl _ none)).mono ?_
  rintro e w1 ⟨rfl, hg⟩
  have HG1 : Hid (w0.grownBy w1 none) := Lib.hid hg
  have hp1 := (HB0.out.grown hg (by simp)).prule
  clear hg hp0 HMY
  go_wp2_with fail
  refine (HSEC.out _).mono ?_
  rintro e w2 ⟨rfl, hg⟩
  have HG2 : Hid (w0.grownBy w2 none) := Lib.hid (HG1.out.trans hg)
  clear hg hp1 HSEC
  go_upto_region 6 with (fail)
  have HB2 : Hid (Bk w2 w.heap.size 24 p.cells) := Lib.hid (HB0.out.grown HG2.out (by simp))
  have HI2 : Hid (TI k0 w2) := Lib.hid (HT.out.keep HI0.out HG2.out (by simp))
  have HW2 : Hid (w.heap.size < w2.heap.size ∧ g < w.heap.size) := Lib.hid ⟨HB2.out.lt, HGW.out⟩
  have HPX : Hid (∀ wx, w2.grownBy wx (some g) → Bk wx w.heap.size 24 p.cells) := Lib.hid (fun wx hg => HB2.out.grown hg (fun e => by injection e with e; have := HW2.out.2; omega))
  have HLX : Hid (∀ wx, w2.grownBy wx (some g) → Sl encU X wx (.slice A l.length c) l) := Lib.hid (fun wx hg => (HL.out.kept HG2.out).keep hg (fun b hb e => HX.out b hb (by injection e with e)))
  have HBH : Hid (∀ (x : Int) (k : Nat) (wx : World), U64 x → k + T ≤ most → TI k wx → Calls Tryz.prog 42 #[.int .u64 x, .int .i64 p.T, .int .u64 p.Q, .func (.func 27) #[.pointer (some ⟨g, 0, none⟩)] #[]] wx fun e w' => ∃ v, e = .returned v ∧ Sl encU (fun b => wx.heap.size ≤ b) w' v (behI x p.Q dr T k) ∧ TI (k + T) w' ∧ wx.grownBy w' (some g)) := Lib.hid (fun x k wx hx hk hi => by
    rw [← HTP.out]
    exact behind_any HT.out x T k wx hx HQ.out.1 HQ.out.2 (by omega) hk hi)
  have HNX : Hid (∀ (k : Nat) (wx : World), k < most → TI k wx → Calls Tryz.prog 27 #[.pointer (some ⟨g, 0, none⟩), .int .u64 p.Q] wx fun e w' => e = .returned (.int .u64 (dr k)) ∧ TI (k + 1) w' ∧ wx.grownBy w' (some g)) := Lib.hid (fun k wx hk hi => HT.out.next hk hi)
  obtain ⟨L, hLL⟩ : ∃ y, y = l.length := ⟨_, rfl⟩
  have HLN := Lib.hid hLL
  rw [← hLL] at hL10 hl1 HMO HLX ⊢
  clear hLL
  go_loopg [10, 11, 31] L (fun gk s10 s11 s31 wx => ∃ s : Nat, s + gk = L ∧ s31 = .int .i64 s ∧ Hid (Side (encS encU) (encS encU) w2.heap.size 29 29 (fun b => w2.heap.size ≤ b) wx s10 s11 (dealFs l p.Q dr T k0 s) (dealRs p.Q dr T k0 s) ∧ TI (k0 + s * (2 * T + 1)) wx ∧ w2.grownBy wx (some g)))
  case atStart => exact ⟨0, by omega, rfl, Lib.hid ⟨⟨Acc.nil _ _ _ _ _, Acc.nil _ _ _ _ _⟩, by simpa using HI2.out, World.grownBy.refl _ _⟩⟩
  case round =>
    obtain ⟨s, hsL, rfl, HXX⟩ := hrel
    have HS0 := Lib.hid HXX.out.1
    have HI3 := Lib.hid HXX.out.2.1
    have HG3 := Lib.hid HXX.out.2.2
    clear HXX
    have hp3 := (HPX.out _ HG3.out).prule
    cases gk with
    | zero =>
      have eL : L = s := by omega
      subst eL
      have hno : ¬ ((L : Int) < (L : Int)) := by omega
      obtain ⟨F, hF⟩ : ∃ y, y = dealFs l p.Q dr T k0 L := ⟨_, rfl⟩
      obtain ⟨R, hR⟩ : ∃ y, y = dealRs p.Q dr T k0 L := ⟨_, rfl⟩
      rw [← hF, ← hR] at HS0
      have HFL : Hid (F.length = L ∧ R.length = L) := Lib.hid (by rw [hF, hR]; simp [dealFs, dealRs])
      have HFT : Hid ((∀ c ∈ F, c.length = T + 1) ∧ (∀ c ∈ R, c.length = T + 1)) := Lib.hid (by
        rw [hF, hR]
        refine ⟨fun c hc => ?_, fun c hc => ?_⟩
        · obtain ⟨i, _, rfl⟩ := List.mem_map.1 hc
          exact behI_len _ _ _ _ _
        · obtain ⟨i, _, rfl⟩ := List.mem_map.1 hc
          exact behI_len _ _ _ _ _)
      have HFE := Lib.hid hF
      have HRE := Lib.hid hR
      obtain ⟨AF, cF, eF, _, _⟩ := HS0.out.fst.sl.form
      obtain ⟨AR, cR, eR, _, _⟩ := HS0.out.snd.sl.form
      rw [HFL.out.1] at eF
      rw [HFL.out.2] at eR
      subst eF eR
      have hmk := run_make_row' (P := Tryz.prog) 41 39 (.slice none 0 0) 24 Tryz.underlying41 info_pairs rfl .i64 .i64 N (by omega) (by omega)
      rw [HN.out] at hmk
      obtain ⟨D0, hD0⟩ : ∃ y, y = wr.alloc (.cells (madeCells #[.slice none 0 0] N) 39) := ⟨_, rfl⟩
      obtain ⟨Bs, hBs⟩ : ∃ y, y = wr.heap.size := ⟨_, rfl⟩
      have HGA : Hid (wr.grownBy D0 none) := Lib.hid (by rw [hD0]; exact World.grownBy_alloc _ _ none)
      have HBO : Hid (Bk D0 Bs 39 (List.replicate N (.slice none 0 0)).toArray) := Lib.hid (by
        rw [hD0, hBs]
        exact (Bk.new wr 39 (madeCells #[.slice none 0 0] N)).of_eq (Array.toList_inj.1 (by rw [toList_madeCells_one])))
      have HBB : Hid (w2.heap.size ≤ Bs ∧ w.heap.size < Bs ∧ g < w.heap.size) := Lib.hid (by rw [hBs]; have := HG3.out.size; have := HW2.out; omega)
      have HBD : Hid (Bk D0 w.heap.size 24 p.cells) := Lib.hid ((HPX.out _ HG3.out).grown HGA.out (by simp))
      have HFD : Hid (Sl (encS encU) (fun b => b < Bs) D0 (.slice AF L cF) F) := Lib.hid ((HS0.out.fst.sl.bounded.kept HGA.out).more fun b _ hb => by rw [hBs]; exact hb.2)
      have HRD : Hid (Sl (encS encU) (fun b => b < Bs) D0 (.slice AR L cR) R) := Lib.hid ((HS0.out.snd.sl.bounded.kept HGA.out).more fun b _ hb => by rw [hBs]; exact hb.2)
      have HID : Hid (TI (k0 + L * (2 * T + 1)) D0) := Lib.hid (HT.out.keep HI3.out HGA.out (by simp))
      have HGD : Hid (w.grownBy D0 (some g)) := Lib.hid (((HG0.out.trans HG2.out).but _).trans (HG3.out.trans (HGA.out.but _)))
      have HLL : Hid ((List.replicate N (Value.slice none 0 0)).length = N) := Lib.hid (by simp)
      have HST : Hid (Bk D0 Bs 39 (List.replicate N (Value.slice none 0 0)).toArray ∧ (∀ i (hi : i < (List.replicate N (Value.slice none 0 0)).length), i < 0 → Sl encP (fun b => Bs < b) D0 (List.replicate N (Value.slice none 0 0))[i] (dealtI p F R ((i : Int) + 1))) ∧ (∀ i (hi : i < (List.replicate N (Value.slice none 0 0)).length), 0 ≤ i → (List.replicate N (Value.slice none 0 0))[i] = .slice none 0 0) ∧ D0.grownBy D0 (some Bs)) := Lib.hid ⟨HBO.out, fun i hi h => absurd h (Nat.not_lt_zero _), fun i hi _ => by simp, World.grownBy.refl _ _⟩
      have HPD : Hid (∀ wx, D0.grownBy wx (some Bs) → Bk wx w.heap.size 24 p.cells) := Lib.hid (fun wx hg => HBD.out.grown hg (fun e => by injection e with e; have := HBB.out; omega))
      have HFX : Hid (∀ wx, D0.grownBy wx (some Bs) → Sl (encS encU) (fun b => b < Bs) wx (.slice AF L cF) F) := Lib.hid (fun wx hg => HFD.out.keep hg (fun b hb e => by injection e with e; omega))
      have HRX : Hid (∀ wx, D0.grownBy wx (some Bs) → Sl (encS encU) (fun b => b < Bs) wx (.slice AR L cR) R) := Lib.hid (fun wx hg => HRD.out.keep hg (fun b hb e => by injection e with e; omega))
      clear hF hR HS0 HI3 HBH HNX HB0 HB2 HBO HBD HFD HRD HPX HLX HG3 HGA
      go_upto_region 13 with (fail)
      rw [← hD0, ← hBs]
      clear hD0 hBs hmk hp3
      go_loopg [64] N (fun gk s64 wx => ∃ (j : Nat) (hs : List Value), j + gk = N ∧ s64 = .int .i64 j ∧ Hid (hs.length = N) ∧ Hid (Bk wx Bs 39 hs.toArray ∧ (∀ i (hi : i < hs.length), i < j → Sl encP (fun b => Bs < b) wx hs[i] (dealtI p F R ((i : Int) + 1))) ∧ (∀ i (hi : i < hs.length), j ≤ i → hs[i] = .slice none 0 0) ∧ D0.grownBy wx (some Bs)))
      case atStart => exact ⟨0, _, by omega, rfl, HLL, HST⟩
      case round =>
        rename World => wj
        obtain ⟨i, hs, hiN, rfl, HLH, HX2⟩ := hrel
        cases gk with
        | zero =>
          obtain rfl : i = N := by omega
          have hno2 : ¬ ((i : Int) < (i : Int)) := by omega
          have HRV : Hid (Sl (encS encP) (fun b => Bs ≤ b) wj (.slice (some ⟨Bs, 0, none⟩) i i) ((List.range i).map fun k : Nat => dealtI p F R ((k : Int) + 1))) := Lib.hid (by
            obtain ⟨h1, h2, _, _⟩ := HX2.out
            have hTL : ((List.range i).map fun k : Nat => dealtI p F R ((k : Int) + 1)).length = i := by simp
            have := Sl.block (E := encS encP) (X := fun b => Bs ≤ b) (xs := (List.range i).map fun k : Nat => dealtI p F R ((k : Int) + 1)) (c := i) h1 (Nat.le_refl _) (hs.map fun v => [v]) (by rw [List.length_map, HLH.out, hTL]) (fun k hk hk' => ⟨hs[k]'(by rw [HLH.out]; omega), by simp, by
              have hc := (h2 k (by rw [HLH.out]; omega) (by omega)).more (Y := fun b => Bs ≤ b) (fun b _ hb => by omega)
              have he : ((List.range i).map fun k : Nat => dealtI p F R ((k : Int) + 1))[k] = dealtI p F R ((k : Int) + 1) := by simp
              rw [he]
              exact hc⟩) (by rw [flatten_singles]) (by rw [hTL]; exact Nat.le_refl _) (by omega)
            rw [hTL] at this
            exact this)
          have HGJ := Lib.hid HX2.out.2.2.2
          have hpj := (HPD.out _ HGJ.out).prule
          have HCM := Lib.hid (callsIn_wide.1 (coms_in 6 (Nat.le_refl _) p (.slice AF L cF) (.slice AR L cR) F R TT wj HP.out ((HFX.out _ HGJ.out).more fun _ _ _ => trivial) ((HRX.out _ HGJ.out).more fun _ _ _ => trivial) (by rw [HFL.out.1]; omega) (by rw [HFL.out.2]; omega) (fun c hc => by
            show c.length ≤ 100000
            rw [HFT.out.1 c hc]
            omega) (fun c hc => by
            show c.length ≤ 100000
            rw [HFT.out.2 c hc]
            omega)))
          clear HX2 HST HLH
          go_wp2_with fail
          refine HCM.out.mono ?_
          rintro e w9 ⟨vc, rfl, hsc, hgc⟩
          have HFIN : Hid (Sl (encS encP) (fun b => w.heap.size ≤ b) w9 (.slice (some ⟨Bs, 0, none⟩) i i) ((List.range i).map fun k : Nat => dealtI p (dealFs l p.Q dr T k0 L) (dealRs p.Q dr T k0 L) ((k : Int) + 1)) ∧ Sl (encS encU) (fun b => w.heap.size ≤ b) w9 vc (comsI p (dealFs l p.Q dr T k0 L) (dealRs p.Q dr T k0 L)) ∧ TI (k0 + L * (2 * T + 1)) w9 ∧ w.grownBy w9 (some g)) := Lib.hid ⟨by
            rw [← HFE.out, ← HRE.out]
            exact (HRV.out.kept hgc).more fun b _ hb => by have := HBB.out.2.1; omega, by
            rw [← HFE.out, ← HRE.out]
            exact hsc.more fun b _ hb => Nat.le_trans (Nat.le_trans HGD.out.size HGJ.out.size) hb, HT.out.keep (HT.out.keep HID.out HGJ.out (fun b e hb => by injection e with e; have := HOB.out b hb; have := HBB.out; omega)) hgc (by simp), HGD.out.andThen (HGJ.out.trans (hgc.but _)) (fun b e => .inl (by injection e with e; have := HBB.out; omega))⟩
          clear hsc hgc hpj
          go_wp2
          go_ret3
          refine ⟨_, _, rfl, ?_⟩
          rw [← HLN.out]
          exact HFIN.out
        | succ m =>
          have hiI : (i : Int) < (N : Int) := by omega
          have hih : i < hs.length := by rw [HLH.out]; omega
          have HIH := Lib.hid hih
          have hjB : Bs < wj.heap.size := HX2.out.1.lt
          have HJB := Lib.hid hjB
          have HIN : Hid (Acc encP wj.heap.size 38 (fun b => wj.heap.size ≤ b) wj (.slice none 0 0) (evsI p F R i 0) ∧ Bk wj Bs 39 (hs.set i (.slice none 0 0)).toArray ∧ wj.grownBy wj (some Bs)) := Lib.hid ⟨Acc.nil _ _ _ _ _, by
            have := HX2.out.2.2.1 i hih (Nat.le_refl _)
            rw [← this, List.set_getElem_self]
            exact HX2.out.1, World.grownBy.refl _ _⟩
          have HGJ := Lib.hid HX2.out.2.2.2
          clear hjB hih
          go_wp2_with fail
          go_loopg [69] L (fun gk s69 wx => ∃ (s : Nat) (v : Value), s + gk = L ∧ s69 = .int .i64 s ∧ Hid (Acc encP wj.heap.size 38 (fun b => wj.heap.size ≤ b) wx v (evsI p F R i s) ∧ Bk wx Bs 39 (hs.set i v).toArray ∧ wj.grownBy wx (some Bs)))
          case atStart => exact ⟨0, _, by omega, rfl, HIN⟩
          case round =>
            rename World => wi
            obtain ⟨s, v, hsL2, rfl, HY⟩ := hrel
            cases gk with
            | zero =>
              obtain rfl : s = L := by omega
              have HFIN : Hid (Bk wi Bs 39 (hs.set i v).toArray ∧ (∀ k (hk : k < (hs.set i v).length), k < i + 1 → Sl encP (fun b => Bs < b) wi (hs.set i v)[k] (dealtI p F R ((k : Int) + 1))) ∧ (∀ k (hk : k < (hs.set i v).length), i + 1 ≤ k → (hs.set i v)[k] = .slice none 0 0) ∧ D0.grownBy wi (some Bs)) := Lib.hid (by
                obtain ⟨h1, h2, h3⟩ := HY.out
                obtain ⟨_, k2, k3, k4⟩ := HX2.out
                refine ⟨h2, fun k hk hij => ?_, fun k hk hij => ?_, HGJ.out.trans h3⟩
                · rcases Nat.lt_or_ge k i with hlt | hge
                  · rw [List.getElem_set_ne (by omega)]
                    exact (k2 k (by simpa using hk) hlt).keep h3 (fun b hb e => by injection e with e; omega)
                  · obtain rfl : k = i := by omega
                    rw [List.getElem_set_self, ← evsI_all p F R k, HFL.out.1]
                    exact h1.sl.more (fun b _ hb => Nat.lt_of_lt_of_le HJB.out hb)
                · rw [List.getElem_set_ne (by omega)]
                  exact k3 k (by simpa using hk) (by omega))
              have HLH2 : Hid ((hs.set i v).length = N) := Lib.hid (by rw [List.length_set]; exact HLH.out)
              clear HX2 HY HST HIN
              go_wp2_with fail
              go_roundg m
              case measure => omega
              case rel => exact ⟨i + 1, _, by omega, by go_num, HLH2, HFIN⟩
            | succ q =>
              have hsI : (s : Int) < (L : Int) := by omega
              have hsF : s < F.length := by rw [HFL.out.1]; omega
              have hsR : s < R.length := by rw [HFL.out.2]; omega
              obtain ⟨hacc, hbo, hgj⟩ := HY.out
              have hgd : D0.grownBy wi (some Bs) := HGJ.out.trans hgj
              obtain ⟨gF, oF, cF', uF, eF, _, hgFl, hcF, hslF⟩ := (HFX.out _ hgd).atS hsF
              injection eF with eF1 eF2 eF3
              subst eF1 eF3
              obtain ⟨gR, oR, cR', uR, eR, _, hgRl, hcR, hslR⟩ := (HRX.out _ hgd).atS hsR
              injection eR with eR1 eR2 eR3
              subst eR1 eR3
              obtain ⟨Af, nf, cf, ef⟩ := hslF.shape
              subst ef
              obtain ⟨Ar, nr, cr, er⟩ := hslR.shape
              subst er
              obtain ⟨Av, nv, cv, ev⟩ := hacc.sl.shape
              subst ev
              have HSN := Lib.hid (evsI_succ p F R i s)
              rw [List.getElem?_eq_getElem hsF, List.getElem?_eq_getElem hsR] at HSN
              have hui : U64 ((i : Int) + 1) := ⟨by omega, by omega⟩
              obtain ⟨ea, hea⟩ : ∃ y, y = evalI p.Q F[s] ((i : Int) + 1) := ⟨_, rfl⟩
              obtain ⟨eb, heb⟩ : ∃ y, y = evalI p.Q R[s] ((i : Int) + 1) := ⟨_, rfl⟩
              simp only [Option.getD_some] at HSN
              rw [← hea, ← heb] at HSN
              have HUA : Hid (U64 ea) := Lib.hid (by rw [hea]; exact evalI_U64 _ _ _)
              have HUB : Hid (U64 eb) := Lib.hid (by rw [heb]; exact evalI_U64 _ _ _)
              obtain ⟨NN, hNN⟩ : ∃ y, y = wi.heap.size := ⟨_, rfl⟩
              have HNB : Hid (wj.heap.size ≤ NN) := Lib.hid (by rw [hNN]; exact hgj.size)
              have hown : ∀ b, (Value.slice Av nv cv).ownBlock = some b → wj.heap.size ≤ b := fun b e => (hacc.lt b e).1
              have hcv0 : wi.cell? ⟨Bs, i, none⟩ = some (.slice Av nv cv) := by rw [hbo.cell i]; simp [HIH.out]
              have hbp := HPD.out _ hgd
              have HNE : Hid (∀ b, b ≤ Bs → some b ≠ (Value.slice Av nv cv).ownBlock) := Lib.hid (fun b hb e => by have := hown b e.symm; have := HJB.out; omega)
              have HC0 : Hid ((evLt wi wj.heap.size NN (.slice Av nv cv) (evsI p F R i s) (ea, eb)).C [] wi.drew) := Lib.hid ⟨(grown_drewN' _ 1).but _, by rw [hNN]; exact Nat.le_refl _, hacc.kept (grown_drewN' _ 1)⟩
              have HLD : Hid (∀ vs W, (evLt wi wj.heap.size NN (.slice Av nv cv) (evsI p F R i s) (ea, eb)).C vs W → W.cell? ⟨w.heap.size, 1, none⟩ = some (.int .u64 p.Q) ∧ W.cell? ⟨gF, oF + s, none⟩ = some (.slice Af nf cf) ∧ W.cell? ⟨gR, oR + s, none⟩ = some (.slice Ar nr cr) ∧ W.cell? ⟨Bs, i, none⟩ = some (.slice Av nv cv)) := Lib.hid (fun vs W hC => ⟨(hbp.grown hC.1 (HNE.out _ (by have := HBB.out; omega))).cell 1, cellK hcF hC.1 (HNE.out _ (by omega)), cellK hcR hC.1 (HNE.out _ (by omega)), cellK hcv0 hC.1 (HNE.out _ (Nat.le_refl _))⟩)
              have HE1 : Hid (∀ vs W, (evLt wi wj.heap.size NN (.slice Av nv cv) (evsI p F R i s) (ea, eb)).C vs W → Calls Tryz.prog 37 #[.slice Af nf cf, .int .u64 ((i : Int) + 1), .int .u64 p.Q] W fun e w' => e = .returned (.int .u64 ea) ∧ W.grownBy w' none) := Lib.hid (fun vs W hC => by
                rw [hea]
                exact eval_any _ F[s] _ p.Q _ W (hslF.keep hC.1 (fun b hb => HNE.out b (by omega))) hui)
              have HE2 : Hid (∀ vs W, (evLt wi wj.heap.size NN (.slice Av nv cv) (evsI p F R i s) (ea, eb)).C vs W → Calls Tryz.prog 37 #[.slice Ar nr cr, .int .u64 ((i : Int) + 1), .int .u64 p.Q] W fun e w' => e = .returned (.int .u64 eb) ∧ W.grownBy w' none) := Lib.hid (fun vs W hC => by
                rw [heb]
                exact eval_any _ R[s] _ p.Q _ W (hslR.keep hC.1 (fun b hb => HNE.out b (by omega))) hui)
              have HSZ : Hid (∀ vs W, (evLt wi wj.heap.size NN (.slice Av nv cv) (evsI p F R i s) (ea, eb)).C vs W → NN ≤ W.heap.size) := Lib.hid (fun vs W hC => hC.2.1)
              have HLB : Hid (((evsI p F R i s).length + 1) * 16 ≤ 140737488355328) := Lib.hid (by simp [evsI]; omega)
              have HFR : Hid (∀ (W : World) (u0 : Value), (evLt wi wj.heap.size NN (.slice Av nv cv) (evsI p F R i s) (ea, eb)).C [u0] W → Acc encP wj.heap.size 38 (fun b => wj.heap.size ≤ b) (W.setCell ⟨Bs, i, none⟩ u0) u0 (evsI p F R i (s + 1)) ∧ Bk (W.setCell ⟨Bs, i, none⟩ u0) Bs 39 (hs.set i u0).toArray ∧ wj.grownBy (W.setCell ⟨Bs, i, none⟩ u0) (some Bs)) := Lib.hid (fun W u0 hC => by
                obtain ⟨g1, _, g3⟩ := hC
                have h3 : Acc encP wj.heap.size 38 (fun b => wj.heap.size ≤ b) W u0 (evsI p F R i (s + 1)) := by rw [HSN.out]; exact g3
                exact ⟨h3.keep (grownSet W Bs i u0) (fun b hb e => by injection e with e; have := HJB.out; omega), ((hbo.grown g1 (HNE.out _ (Nat.le_refl _))).set i u0).of_eq (by simp), ((hgj.andThen g1 (fun b e => .inl (hown b e))).andThen (grownSet W Bs i u0) (fun b e => .inr e))⟩)
              have HFRZ : Hid (∀ (W : World) (vs : List Value), (evLt wi wj.heap.size NN (.slice Av nv cv) (evsI p F R i s) (ea, eb)).C vs W → Bk W Bs 39 (hs.set i (.slice Av nv cv)).toArray) := Lib.hid (fun W vs hC => hbo.grown hC.1 (HNE.out _ (Nat.le_refl _)))
              have hcw : IntKind.u64.wrap ((i : Int) + 1) = (i : Int) + 1 := IntWalk.u64_in _ (by omega)
              have hci : IntKind.i64.wrap ((i : Int) + 1) = (i : Int) + 1 := IntWalk.i64_in _ (by omega)
              have hs0 : (0 : Int) ≤ (s : Int) := Int.natCast_nonneg s
              have hi0 : (0 : Int) ≤ (i : Int) := Int.natCast_nonneg i
              clear hacc hbo hgj hgd hslF hslR hcF hcR hea heb hNN hown hcv0 hbp hgFl hgRl eF2 eR2 HY HIN HST hui hsF hsR
              go_upto_region 18 with (fail)
              refine wp_region_late (evLt wi wj.heap.size NN (.slice Av nv cv) (evsI p F R i s) (ea, eb)) [28] 30 (by kernel_rfl) (by kernel_rfl) (by kernel_rfl) HC0.out ?_
              -- op 0 (slot 72): move
              refine LateR.mono (Qv.eq (.slice (some ⟨Bs, 0, none⟩) N N)) [] (by kernel_rfl) (by rfl) rfl (fun vs w' hC => ?_) ?_
              · refine askl_do rfl fun K hK => ?_
                go_simp
                exact hK _ _ rfl ⟨rfl, World.grownBy.refl _ none⟩
              -- op 1 (slot 73): move
              refine LateR.mono (Qv.eq (.int .i64 (i : Int))) [] (by kernel_rfl) (by rfl) rfl (fun vs w' hC => ?_) ?_
              · refine askl_do rfl fun K hK => ?_
                go_simp
                exact hK _ _ rfl ⟨rfl, World.grownBy.refl _ none⟩
              -- op 2 (slot 74): move
              refine LateR.mono (Qv.eq (.slice (some ⟨Bs, 0, none⟩) N N)) [] (by kernel_rfl) (by rfl) rfl (fun vs w' hC => ?_) ?_
              · refine askl_do rfl fun K hK => ?_
                go_simp
                exact hK _ _ rfl ⟨rfl, World.grownBy.refl _ none⟩
              -- op 3 (slot 75): move
              refine LateR.mono (Qv.eq (.int .i64 (i : Int))) [] (by kernel_rfl) (by rfl) rfl (fun vs w' hC => ?_) ?_
              · refine askl_do rfl fun K hK => ?_
                go_simp
                exact hK _ _ rfl ⟨rfl, World.grownBy.refl _ none⟩
              -- op 4 (slot 76): indexAddr
              refine LateR.mono (Qv.eq (.pointer (some ⟨Bs, i, none⟩))) [(2, 74), (3, 75)] (by kernel_rfl) (by rfl) rfl (fun vs w' hC => ?_) ?_
              · rintro _ rfl
                rintro _ rfl
                refine askl_do rfl fun K hK => ?_
                go_simp
                exact hK _ _ rfl ⟨rfl, World.grownBy.refl _ none⟩
              -- op 5 (slot 77): load
              refine LateR.mono (Qv.eq (.slice Av nv cv)) [(4, 76)] (by kernel_rfl) (by rfl) rfl (fun vs w' hC => ?_) ?_
              · rintro _ rfl
                refine askl_do rfl fun K hK => ?_
                obtain ⟨q0, q1, q2, q3⟩ := HLD.out vs w' hC
                go_simp
                exact hK _ _ rfl ⟨rfl, World.grownBy.refl _ none⟩
              -- op 6 (slot 78): move
              refine LateR.mono (Qv.eq (.slice (some ⟨gF, oF, none⟩) L cF)) [] (by kernel_rfl) (by rfl) rfl (fun vs w' hC => ?_) ?_
              · refine askl_do rfl fun K hK => ?_
                go_simp
                exact hK _ _ rfl ⟨rfl, World.grownBy.refl _ none⟩
              -- op 7 (slot 79): move
              refine LateR.mono (Qv.eq (.int .i64 (s : Int))) [] (by kernel_rfl) (by rfl) rfl (fun vs w' hC => ?_) ?_
              · refine askl_do rfl fun K hK => ?_
                go_simp
                exact hK _ _ rfl ⟨rfl, World.grownBy.refl _ none⟩
              -- op 8 (slot 80): indexAddr
              refine LateR.mono (Qv.eq (.pointer (some ⟨gF, oF + s, none⟩))) [(6, 78), (7, 79)] (by kernel_rfl) (by rfl) rfl (fun vs w' hC => ?_) ?_
              · rintro _ rfl
                rintro _ rfl
                refine askl_do rfl fun K hK => ?_
                go_simp
                exact hK _ _ rfl ⟨rfl, World.grownBy.refl _ none⟩
              -- op 9 (slot 81): load
              refine LateR.mono (Qv.eq (.slice Af nf cf)) [(8, 80)] (by kernel_rfl) (by rfl) rfl (fun vs w' hC => ?_) ?_
              · rintro _ rfl
                refine askl_do rfl fun K hK => ?_
                obtain ⟨q0, q1, q2, q3⟩ := HLD.out vs w' hC
                go_simp
                exact hK _ _ rfl ⟨rfl, World.grownBy.refl _ none⟩
              -- op 10 (slot 82): move
              refine LateR.mono (Qv.eq (.int .i64 (i : Int))) [] (by kernel_rfl) (by rfl) rfl (fun vs w' hC => ?_) ?_
              · refine askl_do rfl fun K hK => ?_
                go_simp
                exact hK _ _ rfl ⟨rfl, World.grownBy.refl _ none⟩
              -- op 11 (slot 83): binOp
              refine LateR.mono (Qv.eq (.int .i64 ((i : Int) + 1))) [(10, 82)] (by kernel_rfl) (by rfl) rfl (fun vs w' hC => ?_) ?_
              · rintro _ rfl
                refine askl_do rfl fun K hK => ?_
                go_simp
                exact hK _ _ rfl ⟨rfl, World.grownBy.refl _ none⟩
              -- op 12 (slot 84): convert
              refine LateR.mono (Qv.eq (.int .u64 ((i : Int) + 1))) [(11, 83)] (by kernel_rfl) (by rfl) rfl (fun vs w' hC => ?_) ?_
              · rintro _ rfl
                refine askl_do rfl fun K hK => ?_
                go_simp
                exact hK _ _ rfl ⟨rfl, World.grownBy.refl _ none⟩
              -- op 13 (slot 85): fieldAddr
              refine LateR.mono (Qv.eq (.pointer (some ⟨w.heap.size, 1, none⟩))) [] (by kernel_rfl) (by rfl) rfl (fun vs w' hC => ?_) ?_
              · refine askl_do rfl fun K hK => ?_
                go_simp
                exact hK _ _ rfl ⟨rfl, World.grownBy.refl _ none⟩
              -- op 14 (slot 86): load
              refine LateR.mono (Qv.eq (.int .u64 p.Q)) [(13, 85)] (by kernel_rfl) (by rfl) rfl (fun vs w' hC => ?_) ?_
              · rintro _ rfl
                refine askl_do rfl fun K hK => ?_
                obtain ⟨q0, q1, q2, q3⟩ := HLD.out vs w' hC
                go_simp
                exact hK _ _ rfl ⟨rfl, World.grownBy.refl _ none⟩
              -- op 15 (slot 87): call
              refine LateR.mono (Qv.eq (.int .u64 ea)) [(9, 81), (12, 84), (14, 86)] (by kernel_rfl) (by rfl) rfl (fun vs w' hC => ?_) ?_
              · rintro _ rfl
                rintro _ rfl
                rintro _ rfl
                refine askl_do rfl fun K hK => ?_
                go_simp
                refine (HE1.out vs w' hC).mono ?_
                rintro e w3 ⟨rfl, hg3⟩
                exact hK _ _ rfl ⟨rfl, hg3⟩
              -- op 16 (slot 88): move
              refine LateR.mono (Qv.eq (.slice (some ⟨gR, oR, none⟩) L cR)) [] (by kernel_rfl) (by rfl) rfl (fun vs w' hC => ?_) ?_
              · refine askl_do rfl fun K hK => ?_
                go_simp
                exact hK _ _ rfl ⟨rfl, World.grownBy.refl _ none⟩
              -- op 17 (slot 89): move
              refine LateR.mono (Qv.eq (.int .i64 (s : Int))) [] (by kernel_rfl) (by rfl) rfl (fun vs w' hC => ?_) ?_
              · refine askl_do rfl fun K hK => ?_
                go_simp
                exact hK _ _ rfl ⟨rfl, World.grownBy.refl _ none⟩
              -- op 18 (slot 90): indexAddr
              refine LateR.mono (Qv.eq (.pointer (some ⟨gR, oR + s, none⟩))) [(16, 88), (17, 89)] (by kernel_rfl) (by rfl) rfl (fun vs w' hC => ?_) ?_
              · rintro _ rfl
                rintro _ rfl
                refine askl_do rfl fun K hK => ?_
                go_simp
                exact hK _ _ rfl ⟨rfl, World.grownBy.refl _ none⟩
              -- op 19 (slot 91): load
              refine LateR.mono (Qv.eq (.slice Ar nr cr)) [(18, 90)] (by kernel_rfl) (by rfl) rfl (fun vs w' hC => ?_) ?_
              · rintro _ rfl
                refine askl_do rfl fun K hK => ?_
                obtain ⟨q0, q1, q2, q3⟩ := HLD.out vs w' hC
                go_simp
                exact hK _ _ rfl ⟨rfl, World.grownBy.refl _ none⟩
              -- op 20 (slot 92): move
              refine LateR.mono (Qv.eq (.int .i64 (i : Int))) [] (by kernel_rfl) (by rfl) rfl (fun vs w' hC => ?_) ?_
              · refine askl_do rfl fun K hK => ?_
                go_simp
                exact hK _ _ rfl ⟨rfl, World.grownBy.refl _ none⟩
              -- op 21 (slot 93): binOp
              refine LateR.mono (Qv.eq (.int .i64 ((i : Int) + 1))) [(20, 92)] (by kernel_rfl) (by rfl) rfl (fun vs w' hC => ?_) ?_
              · rintro _ rfl
                refine askl_do rfl fun K hK => ?_
                go_simp
                exact hK _ _ rfl ⟨rfl, World.grownBy.refl _ none⟩
              -- op 22 (slot 94): convert
              refine LateR.mono (Qv.eq (.int .u64 ((i : Int) + 1))) [(21, 93)] (by kernel_rfl) (by rfl) rfl (fun vs w' hC => ?_) ?_
              · rintro _ rfl
                refine askl_do rfl fun K hK => ?_
                go_simp
                exact hK _ _ rfl ⟨rfl, World.grownBy.refl _ none⟩
              -- op 23 (slot 95): fieldAddr
              refine LateR.mono (Qv.eq (.pointer (some ⟨w.heap.size, 1, none⟩))) [] (by kernel_rfl) (by rfl) rfl (fun vs w' hC => ?_) ?_
              · refine askl_do rfl fun K hK => ?_
                go_simp
                exact hK _ _ rfl ⟨rfl, World.grownBy.refl _ none⟩
              -- op 24 (slot 96): load
              refine LateR.mono (Qv.eq (.int .u64 p.Q)) [(23, 95)] (by kernel_rfl) (by rfl) rfl (fun vs w' hC => ?_) ?_
              · rintro _ rfl
                refine askl_do rfl fun K hK => ?_
                obtain ⟨q0, q1, q2, q3⟩ := HLD.out vs w' hC
                go_simp
                exact hK _ _ rfl ⟨rfl, World.grownBy.refl _ none⟩
              -- op 25 (slot 97): call
              refine LateR.mono (Qv.eq (.int .u64 eb)) [(19, 91), (22, 94), (24, 96)] (by kernel_rfl) (by rfl) rfl (fun vs w' hC => ?_) ?_
              · rintro _ rfl
                rintro _ rfl
                rintro _ rfl
                refine askl_do rfl fun K hK => ?_
                go_simp
                refine (HE2.out vs w' hC).mono ?_
                rintro e w3 ⟨rfl, hg3⟩
                exact hK _ _ rfl ⟨rfl, hg3⟩
              -- op 26 (slot 98): build
              refine LateR.mono (Qv.eq (.agg #[.int .u64 ea, .int .u64 eb])) [(15, 87), (25, 97)] (by kernel_rfl) (by rfl) rfl (fun vs w' hC => ?_) ?_
              · rintro _ rfl
                rintro _ rfl
                refine askl_do rfl fun K hK => ?_
                go_simp
                exact hK _ _ rfl ⟨rfl, World.grownBy.refl _ none⟩
              -- op 27 (slot 99): buildSlice
              refine LateR.mono (evP NN ea eb) [(26, 98)] (by kernel_rfl) (by rfl) rfl (fun vs w' hC => ?_) ?_
              · rintro _ rfl
                refine askl_do rfl fun K hK => ?_
                have hsz := HSZ.out vs w' hC
                go_simp
                exact hK _ _ rfl ⟨fun _ => ⟨_, rfl, hsz, Bk.new w' _ _⟩, World.grownBy_alloc w' _ none⟩
              -- op 28 (slot 100): call
              refine LateR.turn 0 [(5, 77), (27, 99)] (by kernel_rfl) rfl (fun vs w' hl hC => ?_) ?_
              · rintro _ rfl
                intro x99 h99
                have h99 : vs = [] → BlkP NN ea eb x99 w' := h99
                refine askl_do rfl fun K hK => ?_
                obtain rfl : vs = [] := List.eq_nil_of_length_eq_zero hl
                obtain ⟨g1, g2, g3⟩ := hC
                obtain ⟨b99, e99, hb99, hk99⟩ := h99 rfl
                subst e99
                refine pushAt_core (E := encP) (y := (ea, eb)) el_pair g3 ⟨rfl, HUA.out, HUB.out⟩ (Bk.two hk99) HLB.out (Nat.le_trans HNB.out g2) (fun g hg => Nat.le_trans (Nat.le_trans HNB.out g2) hg) (.tmp 77) (.tmp 99) rfl rfl rfl ?_
                intro v3 w3 ha hgr hm
                exact hK _ _ rfl ⟨trivial, g1.trans hgr, Nat.le_trans g2 hgr.size, ha⟩
              -- op 29 (slot 101): indexAddr
              refine LateR.mono (Qv.eq (.pointer (some ⟨Bs, i, none⟩))) [(0, 72), (1, 73)] (by kernel_rfl) (by rfl) rfl (fun vs w' hC => ?_) ?_
              · rintro _ rfl
                rintro _ rfl
                refine askl_do rfl fun K hK => ?_
                go_simp
                exact hK _ _ rfl ⟨rfl, World.grownBy.refl _ none⟩
              intro vs w5 hvl hC5
              obtain ⟨u, rfl⟩ : ∃ u, vs = [u] := List.length_eq_one_iff.1 hvl
              intro y0 k0 y1 k1 y2 k2 y3 k3 y4 k4 y5 k5 y6 k6 y7 k7 y8 k8 y9 k9 y10 k10 y11 k11 y12 k12 y13 k13 y14 k14 y15 k15 y16 k16 y17 k17 y18 k18 y19 k19 y20 k20 y21 k21 y22 k22 y23 k23 y24 k24 y25 k25 y26 k26 y27 k27 y28 k28 y29 k29
              show wpList Tryz.prog _ _ _ _ w5
              simp only [Act.put, List.setIfInBounds_toArray, List.set_cons_zero, List.set_cons_succ]
              have e28 : y28 = u := by have : some u = some y28 := k28; injection this with this; exact this.symm
              have e29 : y29 = .pointer (some ⟨Bs, i, none⟩) := k29
              subst e28 e29
              have HF5 := Lib.hid (HFR.out w5 y28 hC5)
              have hz5 := HFRZ.out w5 _ hC5
              have c5 : w5.cell? ⟨Bs, i, none⟩ = some (.slice Av nv cv) := by rw [hz5.cell i]; simp [HIH.out]
              have f5 := hz5.free
              have HA5 : Hid (Acc encP wj.heap.size 38 (fun b => wj.heap.size ≤ b) w5 y28 (evsI p F R i s ++ [(ea, eb)])) := Lib.hid hC5.2.2
              obtain ⟨Au, nu, cu, eu⟩ := HA5.out.sl.shape
              subst eu
              clear hC5 hz5 HA5 k0 k1 k2 k3 k4 k5 k6 k7 k8 k9 k10 k11 k12 k13 k14 k15 k16 k17 k18 k19 k20 k21 k22 k23 k24 k25 k26 k27 k28 k29 HLD HSZ HFR HFRZ HC0 HE1 HE2
              go_wp2_with fail
              go_roundg q
              case measure => omega
              case rel => exact ⟨s + 1, _, by omega, by go_num, HF5⟩
    | succ m =>
      have hin : (s : Int) < (L : Int) := by omega
      have hsl : s < l.length := by have := HLN.out; omega
      obtain ⟨gl, ol, cl, el, _, _, hcl, hul⟩ := (HLX.out _ HG3.out).atU hsl
      injection el with el1 el2 el3
      subst el1 el3
      obtain ⟨kb, hkb⟩ : ∃ y, y = k0 + s * (2 * T + 1) := ⟨_, rfl⟩
      have hkm : kb + (2 * T + 1) ≤ most := by
        have h1 : (s + 1) * (2 * T + 1) ≤ L * (2 * T + 1) := Nat.mul_le_mul_right _ (by omega)
        have h2 := HMO.out
        rw [Nat.add_mul, Nat.one_mul] at h1
        omega
      have HKN : Hid (k0 + (s + 1) * (2 * T + 1) = kb + T + 1 + T) := Lib.hid (by rw [hkb, Nat.add_mul, Nat.one_mul]; omega)
      have HFN : Hid (dealFs l p.Q dr T k0 (s + 1) = dealFs l p.Q dr T k0 s ++ [behI l[s] p.Q dr T kb]) := Lib.hid (by
        rw [hkb]
        refine (dsnoc _ _).trans ?_
        show _ ++ [behI (l[s]?.getD 0) p.Q dr T (k0 + s * (2 * T + 1))] = _
        rw [List.getElem?_eq_getElem hsl]
        rfl)
      have HRN : Hid (dealRs p.Q dr T k0 (s + 1) = dealRs p.Q dr T k0 s ++ [behI (dr (kb + T)) p.Q dr T (kb + T + 1)]) := Lib.hid (by
        rw [hkb]
        exact dsnoc _ _)
      rw [← hkb] at HI3
      have HB1 := Lib.hid (HBH.out l[s] kb wr hul (by omega) HI3.out)
      obtain ⟨y, hy⟩ : ∃ y, y = behI l[s] p.Q dr T kb := ⟨_, rfl⟩
      rw [← hy] at HFN HB1
      obtain ⟨z, hz⟩ : ∃ y, y = behI (dr (kb + T)) p.Q dr T (kb + T + 1) := ⟨_, rfl⟩
      rw [← hz] at HRN
      have HZ := Lib.hid hz
      have HLF : Hid (((dealFs l p.Q dr T k0 s).length + 1) * 24 ≤ 140737488355328) := Lib.hid (by simp [dealFs]; omega)
      have HLR : Hid (((dealRs p.Q dr T k0 s).length + 1) * 24 ≤ 140737488355328) := Lib.hid (by simp [dealRs]; omega)
      have HOWN : Hid ((∀ r, u10.ownBlock = some r → r < wr.heap.size) ∧ (∀ r, u11.ownBlock = some r → r < wr.heap.size)) := Lib.hid ⟨fun r e => (HS0.out.fst.lt r e).2, fun r e => (HS0.out.snd.lt r e).2⟩
      have HZR : Hid (w2.heap.size ≤ wr.heap.size) := Lib.hid HG3.out.size
      clear hkb hy hz el2
      generalize l[s] = x at *
      go_wp2_with fail
      refine HB1.out.mono ?_
      rintro e w3 ⟨v42, rfl, hs3, hi3, hg3⟩
      obtain ⟨A42, n42, c42, rfl⟩ := hs3.shape
      have HG4 : Hid (w2.grownBy w3 (some g)) := Lib.hid (HG3.out.trans hg3)
      have HI4 := Lib.hid hi3
      have HS4 := Lib.hid (HS0.out.keep hg3 (fun b hb e => by injection e with e; have := HW2.out; omega))
      have HREP : Hid ((encS encU).rep (fun b => (w2.heap.size ≤ b ∧ some b ≠ u11.ownBlock) ∧ some b ≠ u10.ownBlock) w3 [.slice A42 n42 c42] y) := Lib.hid ⟨_, rfl, hs3.more fun b _ hb => ⟨⟨Nat.le_trans HZR.out hb, fun e => by have := HOWN.out.2 b e.symm; omega⟩, fun e => by have := HOWN.out.1 b e.symm; omega⟩⟩
      have HZ4 : Hid (w2.heap.size ≤ w3.heap.size) := Lib.hid HG4.out.size
      clear hs3 hi3 hg3 hp3 hcl
      go_wp2_with (at_builtin; refine wpList_push rfl (.tmp 35) (.tmp 43) rfl (E := encS encU) (y := y) el_nums HS4.out.fst rfl rfl HREP.out HLF.out HZ4.out (HS4.out.new1 (fun _ h => Nat.le_trans HZ4.out h)) ?_)
      intro v10 w4 ha hg hm
      have HS5 := Lib.hid (HS4.out.one ha hg hm)
      have HG5 : Hid (w2.grownBy w4 (some g)) := Lib.hid (HG4.out.andThen hg (fun j e => .inl (HS4.out.fst.lt j e).1))
      have HI5 : Hid (TI (kb + T) w4) := Lib.hid (HT.out.keep HI4.out hg (fun b e hb => by have := (HS4.out.fst.lt b e).1; have := HOB.out b hb; have := HW2.out; omega))
      obtain ⟨A10, n10, c10, e10⟩ := HS5.out.fst.sl.shape
      subst e10
      obtain ⟨A11, n11, c11, e11⟩ := HS5.out.snd.sl.shape
      subst e11
      clear ha hg hm
      have hp5 : ∀ o, w4.drew.cell? ⟨w.heap.size, o, none⟩ = (#[.int .u64 p.P, .int .u64 p.Q, .int .u64 p.G, .int .u64 p.H, .int .i64 p.Nodes, .int .i64 p.N, .int .i64 p.T, .int .i64 p.K, .int .i64 p.D, .int .i64 p.R, .int .i64 p.M, .int .i64 p.X] : Array Value)[o]? := (HPX.out _ HG5.out).prule
      have HI6 : Hid (TI (kb + T) w4.drew) := Lib.hid (HT.out.keep HI5.out (grown_drewN' _ 1) (by simp))
      have HS6 := Lib.hid (HS5.out.kept (grown_drewN' _ 1))
      have HG6 : Hid (w2.grownBy w4.drew (some g)) := Lib.hid (HG5.out.trans ((grown_drewN' _ 1).but _))
      have HN6 := Lib.hid (HNX.out (kb + T) w4.drew (by omega) HI6.out)
      have HVU := Lib.hid (HT.out.val (kb + T))
      have hkm2 : kb + T + 1 + T ≤ most := by omega
      go_upto_region 9 with (fail)
      go_region_held3 (fun w' => ∀ o, w'.cell? ⟨w.heap.size, o, none⟩ = (#[.int .u64 p.P, .int .u64 p.Q, .int .u64 p.G, .int .u64 p.H, .int .i64 p.Nodes, .int .i64 p.N, .int .i64 p.T, .int .i64 p.K, .int .i64 p.D, .int .i64 p.R, .int .i64 p.M, .int .i64 p.X] : Array Value)[o]?) (first | assumption | (refine rule_alloc ?_ ?_ _ <;> assumption) | go_keep)
        (first
        | (go_at_call 27; (with_reducible refine HN6.out.mono ?_); rintro e w5 ⟨rfl, hi5, hg5⟩; have HI7 := Lib.hid hi5; have HG7 : Hid (w2.grownBy w5 (some g)) := Lib.hid (HG6.out.trans hg5); have HS7 := Lib.hid (HS6.out.keep hg5 (fun b hb e => by injection e with e; have := HW2.out; omega)); have hp7 := (HPX.out _ HG7.out).prule; have HB7 := Lib.hid (HBH.out (dr (kb + T)) (kb + T + 1) w5 HVU.out hkm2 HI7.out); have hz7 : w5.heap.size = w5.heap.size := rfl; clear hi5 hg5)
        | (go_at_call 42; (with_reducible refine HB7.out.mono ?_); rintro e w6 ⟨v55, rfl, hs6, hi6, hg6⟩; obtain ⟨A55, n55, c55, rfl⟩ := hs6.shape; have HI8 := Lib.hid hi6; have HG8 : Hid (w2.grownBy w6 (some g)) := Lib.hid (HG7.out.trans hg6); have HS8 := Lib.hid (HS7.out.keep hg6 (fun b hb e => by injection e with e; have := HW2.out; omega)); have hp8 := (HPX.out _ HG8.out).prule; have lp8 : w.heap.size < w6.heap.size := (HPX.out _ HG8.out).lt; have HZ8 : Hid (w2.heap.size ≤ w6.heap.size) := Lib.hid HG8.out.size; have HREP2 : Hid ((encS encU).rep (fun b => (w2.heap.size ≤ b ∧ some b ≠ (Value.slice A10 n10 c10).ownBlock) ∧ some b ≠ (Value.slice A11 n11 c11).ownBlock) w6 [.slice A55 n55 c55] z) := Lib.hid ⟨_, rfl, by rw [HZ.out]; exact hs6.more fun b _ hb => ⟨⟨Nat.le_trans HG7.out.size hb, fun e => by have := (HS7.out.fst.lt b e.symm).2; omega⟩, fun e => by have := (HS7.out.snd.lt b e.symm).2; omega⟩⟩; clear hs6 hi6 hg6)
        | (refine step_push rfl (.tmp 45) (.tmp 56) rfl (E := encS encU) (y := z) el_nums HS8.out.snd rfl rfl HREP2.out HLR.out HZ8.out (HS8.out.new2 (fun _ h => Nat.le_trans HZ8.out h)) ?_; intro v11 w7 ha hg hm; have HS9 := Lib.hid (HS8.out.two ha hg hm); have HG9 : Hid (w2.grownBy w7 (some g)) := Lib.hid (HG8.out.andThen hg (fun j e => .inl (HS8.out.snd.lt j e).1)); have HI9 : Hid (TI (kb + T + 1 + T) w7) := Lib.hid (HT.out.keep HI8.out hg (fun b e hb => by have := (HS8.out.snd.lt b e).1; have := HOB.out b hb; have := HW2.out; omega)); have hp9 := (HPX.out _ HG9.out).prule; clear ha hg hm))
      have HFIN : Hid (Side (encS encU) (encS encU) w2.heap.size 29 29 (fun b => w2.heap.size ≤ b) w7 (.slice A10 n10 c10) v11 (dealFs l p.Q dr T k0 (s + 1)) (dealRs p.Q dr T k0 (s + 1)) ∧ TI (k0 + (s + 1) * (2 * T + 1)) w7 ∧ w2.grownBy w7 (some g)) := Lib.hid ⟨by rw [HFN.out, HRN.out]; exact HS9.out, by rw [HKN.out]; exact HI9.out, HG9.out⟩
      go_wp2_with fail
      go_roundg m
      case measure => omega
      case rel => exact ⟨s + 1, by omega, by go_num, HFIN⟩
theorem dmodel_any (p : Par) (vl : Value) (l : List Int) (X : Nat → Prop) (w : World) {g : Nat} {dr : Nat → Int} {TI : Nat → World → Prop} {bl : Nat → Prop} {most : Nat} (hT : Tp g p.Q dr TI bl most) (hp : p.ok) (hm : mayP p = true) (hTab : TabsAt w) (h : Sl encU X w vl l) (hX : ∀ b, X b → b ≠ g) (hl : (l.length : Int) = secretsI p) (k0 T : Nat) (hTT : (T : Int) = p.T) (hI : TI k0 w) (hmost : k0 + l.length * (2 * T + 1) ≤ most) :
    Calls Tryz.prog 15 #[p.v, vl, .pointer (some ⟨g, 0, none⟩)] w fun e w' => ∃ vs vc, e = .returned (.tuple #[vs, vc, .int .i64 0]) ∧ Sl (encS encP) TT w' vs ((List.range p.N.toNat).map fun i : Nat => dealtI p (dealFs l p.Q dr T k0 l.length) (dealRs p.Q dr T k0 l.length) ((i : Int) + 1)) ∧ Sl (encS encU) TT w' vc (comsI p (dealFs l p.Q dr T k0 l.length) (dealRs p.Q dr T k0 l.length)) ∧ TI (k0 + l.length * (2 * T + 1)) w' ∧ w.grownBy w' (some g) := (dmodel_new p vl l X w hT hp hm hTab h hX hl k0 T hTT hI hmost).mono fun _ _ ⟨vs, vc, e, h1, h2, h3⟩ => ⟨vs, vc, e, h1.more fun _ _ _ => trivial, h2.more fun _ _ _ => trivial, h3⟩
end Go.Proofs.YthicondcjeipfaaGreatDoor

namespace Go.Proofs.YthicondcjeipfaaGreatDoor
open Go Go.RowKit

/-- Numbers do not lie in a block in which no two of them stand side by side. -/
theorem sl_apartU {X : Nat → Prop} {W : World} {v : Value} {S : List Int} (h : Sl encU X W v S) (h2 : 2 ≤ S.length) {b : Nat} {t : TypeId} {cs : Array Value} (hb : Bk W b t cs) (hc : ∀ i a c, cs[i]? = some (.int .u64 a) → cs[i + 1]? = some (.int .u64 c) → False) : Sl encU (fun g => g ≠ b) W v S := by
  obtain ⟨A, c, e, h3, h4, h5⟩ := h
  refine ⟨A, c, e, h3, h4, fun hn => ?_⟩
  obtain ⟨g, o, eA, lt, _, hi⟩ := h5 hn
  refine ⟨g, o, eA, lt, fun eg => ?_, hi⟩
  subst eg
  obtain ⟨c0, ⟨r0, _⟩, k0⟩ := hi 0 (by omega)
  obtain ⟨c1, ⟨r1, _⟩, k1⟩ := hi 1 (by omega)
  have q0 := k0 0 (.int .u64 S[0]) (by rw [r0]; rfl)
  have q1 := k1 0 (.int .u64 S[1]) (by rw [r1]; rfl)
  rw [hb.cell] at q0 q1
  exact hc o _ _ (by simpa [encU] using q0) (by simpa [encU] using q1)
/-- No two numbers side by side. -/
def NoTwo (cs : Array Value) : Prop := ∀ i a c, cs[i]? = some (.int .u64 a) → cs[i + 1]? = some (.int .u64 c) → False
theorem tape_ints (A : Option Addr) (n c0 : Nat) (s d : Int) : NoTwo #[.int .u64 s, .slice A n c0, .int .i64 d]
  | 0, a, c, _, h => by simp at h
  | 1, a, c, h, _ => by simp at h
  | 2, a, c, h, _ => by simp at h
  | n + 3, a, c, h, _ => by simp at h
end Go.Proofs.YthicondcjeipfaaGreatDoor

namespace Go.Proofs.YthicondcjeipfaaGreatDoor
open Go.RowKit

set_option maxHeartbeats 400000 in
theorem next_ahead (b g o n c : Nat) (x : Int) (s d q : Int) (w : World) (hx : U64 x) (hq : U64 q) (hd0 : 0 ≤ d) (hd : d < 4611686018427387904)
    (hb : Bk w b 64 #[.int .u64 s, .slice (some ⟨g, o, none⟩) (n + 1) c, .int .i64 d]) (hc : w.cell? ⟨g, o, none⟩ = some (.int .u64 x)) (hgb : g ≠ b) (_hn : n + 1 ≤ c) (h1c : 1 < c) (hcm : c ≤ 9223372036854775807) :
    Calls Tryz.prog 27 #[.pointer (some ⟨b, 0, none⟩), .int .u64 q] w fun e w' => e = .returned (.int .u64 (belowI x q)) ∧ Bk w' b 64 #[.int .u64 s, .slice (some ⟨g, o + 1, none⟩) n (c - 1), .int .i64 (d + 1)] ∧ w.grownBy w' (some b) := by
  have c1 : w.cell? ⟨b, 1, none⟩ = some (.slice (some ⟨g, o, none⟩) (n + 1) c) := hb.cell 1
  have c2 : w.cell? ⟨b, 2, none⟩ = some (.int .i64 d) := hb.cell 2
  have f1 : w.frozen? ⟨b, 1, none⟩ = false := hb.free 1
  have f2 : w.frozen? ⟨b, 2, none⟩ = false := hb.free 2
  have HB := Lib.hid hb
  have HL := Lib.hid (fun w => below_any x q w hx hq)
  have hne : ¬ (b = g) := fun h => hgb h.symm
  clear hb hx hq
  go_enter Tryz.func27, Tryz.ntmps27
  go_wp2_with fail
  refine (HL.out _).mono ?_
  rintro e w' ⟨rfl, n1, rfl⟩
  go_wp2
  go_ret
  refine ⟨rfl, ?_, ?_⟩
  · exact Bk.drewN (((HB.out.set 2 _).set 1 _).of_eq rfl) _
  · exact grownBy_drewN (grownBy_set (grownBy_set (World.grownBy.refl w _) 2 _) 1 _) _

set_option maxHeartbeats 400000 in
theorem next_last (b g o : Nat) (x : Int) (s d q : Int) (w : World) (hx : U64 x) (hq : U64 q) (hd0 : 0 ≤ d) (hd : d < 4611686018427387904)
    (hb : Bk w b 64 #[.int .u64 s, .slice (some ⟨g, o, none⟩) 1 1, .int .i64 d]) (hc : w.cell? ⟨g, o, none⟩ = some (.int .u64 x)) (hgb : g ≠ b) :
    Calls Tryz.prog 27 #[.pointer (some ⟨b, 0, none⟩), .int .u64 q] w fun e w' => e = .returned (.int .u64 (belowI x q)) ∧ Bk w' b 64 #[.int .u64 s, .slice (some ⟨g, o, none⟩) 0 0, .int .i64 (d + 1)] ∧ w.grownBy w' (some b) := by
  have c1 : w.cell? ⟨b, 1, none⟩ = some (.slice (some ⟨g, o, none⟩) 1 1) := hb.cell 1
  have c2 : w.cell? ⟨b, 2, none⟩ = some (.int .i64 d) := hb.cell 2
  have f1 : w.frozen? ⟨b, 1, none⟩ = false := hb.free 1
  have f2 : w.frozen? ⟨b, 2, none⟩ = false := hb.free 2
  have HB := Lib.hid hb
  have HL := Lib.hid (fun w => below_any x q w hx hq)
  have hne : ¬ (b = g) := fun h => hgb h.symm
  clear hb hx hq
  go_enter Tryz.func27, Tryz.ntmps27
  go_wp2_with fail
  refine (HL.out _).mono ?_
  rintro e w' ⟨rfl, n1, rfl⟩
  go_wp2
  go_ret
  refine ⟨rfl, ?_, ?_⟩
  · exact Bk.drewN (((HB.out.set 2 _).set 1 _).of_eq rfl) _
  · exact grownBy_drewN (grownBy_set (grownBy_set (World.grownBy.refl w _) 2 _) 1 _) _

theorem eq_nil (w : World) (A : Option Addr) (n c : Nat) : (binOp .eql 29 (.slice A n c) (.slice none 0 0)).run Tryz.prog w = .ok (.bool A.isNone) w :=
  Lib.run_eql_slice_nil w _ 22 A n c 0 0 Tryz.underlying29
/-- What a copy of numbers leaves: a slice of its own that reads as they do. -/
def Cloned (w : World) (l : List Int) (e : Ending) (w' : World) : Prop := ∃ A c, e = .returned (.slice A l.length c) ∧ Rd w' A (nums l) ∧ l.length ≤ c ∧ c ≤ 9223372036854775807 ∧ (∀ g o, A = some ⟨g, o, none⟩ → w.heap.size ≤ g ∧ g < w'.heap.size) ∧ w.grownBy w' none
theorem cloned_of {w w0 w1 : World} {l : List Int} {v : Value} {n : Nat} {row : Option Nat} (hn : n = l.length) (hown : w1.ownsRow w.heap.size 22 1 v n (nums l)) (hg0 : w.grownBy w0 none) (hg : w0.grownBy w1 row) (hr : ∀ g, row = some g → w.heap.size ≤ g) : Cloned w l (.returned v) w1 := by
  subst hn
  have hG := grown_up hg0 hg hr
  rcases hown.2 with ⟨hv, h0⟩ | ⟨g, cap, cur, hv, hb, hh, hnc, hcm, _, _⟩
  · subst hv
    refine ⟨none, 0, by rw [h0], ?_, by omega, by omega, by simp, hG⟩
    have : l = [] := List.eq_nil_of_length_eq_zero h0
    subst this
    exact Rd.nil _ _
  · subst hv
    exact ⟨_, cap, rfl, Rd.own hown, hnc, hcm, fun g' o e => by injection e with e; injection e with e1 e2 e3; subst e1; exact ⟨hb, Bk.lt hh⟩, hG⟩

set_option maxHeartbeats 400000 in
theorem clone_some (x : Addr) (c : Nat) (l : List Int) (w : World) (hr : Rd w (some x) (nums l)) (hn : l.length * 8 ≤ 140737488351232) :
    Calls Tryz.prog 23 #[.slice (some x) l.length c] w (Cloned w l) := by
  obtain ⟨i0, hi, hz0, hz1, hz2⟩ := info_parts u64_info
  have heq := fun w => eq_nil w (some x) l.length c
  have hown := World.ownsRow_made (base := w.heap.size) (e := 22) (size := 1) w #[] 0 (Nat.le_refl _) (Nat.zero_le _) rfl
  have hr1 : Rd (w.alloc (.cells #[] 22)) (some x) (nums l) := hr.grown (World.grownBy_alloc w _ none) (by simp)
  have hc := hr1.addr
  go_enter Tryz.func23, Tryz.ntmps23
  go_wp2_with (at_builtin; refine wpList_append_own _ rfl (.tmp 5) (.tmp 6) 29 rfl w.heap.size 22 i0 (.int .u64 0) 1 8 Tryz.underlying29 hi hz0 hz1 hz2 rfl (by decide) _ _ _ rfl hown x l.length c (nums l) rfl (by simp [nums]) hc (nums_one l) (by unfold maxLen; omega) (by omega) (by simp) ?_)
  intro v' w1 hown1 hgrow _
  have HO := Lib.hid hown1
  have HG := Lib.hid hgrow
  clear hown1 hgrow hc hr1 hown
  go_wp2
  go_ret
  exact cloned_of (by simp) HO.out (World.grownBy_alloc w _ none) HG.out (by simp [Value.ownBlock])

theorem clone_none (c : Nat) (w : World) :
    Calls Tryz.prog 23 #[.slice none 0 c] w fun e w' => e = .returned (.slice none 0 0) ∧ w' = w := by
  have heq := fun w => eq_nil w none 0 c
  go_enter Tryz.func23, Tryz.ntmps23
  go_wp2
  go_ret
  exact ⟨rfl, rfl⟩

/-- The slice value v reads as the numbers l. -/
def SlIs (w : World) (v : Value) (l : List Int) : Prop := ∃ A c, v = .slice A l.length c ∧ Rd w A (nums l) ∧ l.length ≤ c ∧ c ≤ 9223372036854775807
theorem SlIs.kept {w w' : World} {v : Value} {l : List Int} (h : SlIs w v l) (hg : w.grownBy w' none) : SlIs w' v l := by
  obtain ⟨A, c, e, hr, h1, h2⟩ := h
  exact ⟨A, c, e, hr.grown hg (by simp), h1, h2⟩
theorem clone_any (v : Value) (l : List Int) (w : World) (h : SlIs w v l) (hn : l.length * 8 ≤ 140737488351232) :
    Calls Tryz.prog 23 #[v] w (Cloned w l) := by
  obtain ⟨A, c, rfl, hr, _, _⟩ := h
  cases A with
  | none =>
    have hl : l = [] := by
      cases l with
      | nil => rfl
      | cons x l => obtain ⟨g, o, e, _⟩ := hr (by simp [nums]); cases e
    subst hl
    refine (clone_none c w).mono ?_
    rintro e w' ⟨rfl, rfl⟩
    exact ⟨none, 0, rfl, Rd.nil _ _, Nat.le_refl _, by omega, by simp, World.grownBy.refl _ _⟩
  | some x => exact clone_some x c l w hr hn
end Go.Proofs.YthicondcjeipfaaGreatDoor

namespace Go.Proofs.YthicondcjeipfaaGreatDoor
open Go.RowKit

theorem TapeIs.grown {w w' : World} {b ga : Nat} {T : TS} {row : Option Nat} (h : TapeIs w b ga T) (hg : w.grownBy w' row) (hb : some b ≠ row) (ha : some ga ≠ row) : TapeIs w' b ga T := by
  obtain ⟨A, c, hk, h1, h2, h3⟩ := h
  refine ⟨A, c, hk.grown hg hb, h1, h2, fun hn => ?_⟩
  obtain ⟨h4, h5, o, h6, h7⟩ := h3 hn
  exact ⟨h4, Nat.lt_of_lt_of_le h5 hg.size, o, h6, fun j u hu => (World.cell?_of_block (w := w) (hg.block ga h5 ha)).trans (h7 j u hu)⟩
/-- Behind a call that leaves all old memory alone. -/
theorem TapeIs.kept {w w' : World} {b ga : Nat} {T : TS} (h : TapeIs w b ga T) (hg : w.grownBy w' none) : TapeIs w' b ga T :=
  h.grown hg (by simp) (by simp)
theorem TapeIs.lt {w : World} {b ga : Nat} {T : TS} (h : TapeIs w b ga T) : b < w.heap.size := by
  obtain ⟨A, c, hk, _⟩ := h
  exact hk.lt

def TapeMade (w : World) (T : TS) (e : Ending) (w' : World) : Prop := ∃ b ga, e = .returned (.pointer (some ⟨b, 0, none⟩)) ∧ TapeIs w' b ga T ∧ w.heap.size ≤ b ∧ w.heap.size ≤ ga ∧ ga < w'.heap.size ∧ w.grownBy w' none

set_option maxHeartbeats 400000 in
theorem of_made (v : Value) (l : List Int) (s : Int) (w : World) (h : SlIs w v l) (hn : l.length * 8 ≤ 140737488351232) :
    Calls Tryz.prog 6 #[v, .int .u64 s] w (TapeMade w ⟨l, s, 0⟩) := by
  have HC := Lib.hid (clone_any v l w h hn)
  clear h
  go_enter Tryz.func6, Tryz.ntmps6
  go_wp2_with fail
  refine HC.out.mono ?_
  rintro e w1 ⟨A, c, rfl, hr, h1, h2, h3, hg⟩
  have HX := Lib.hid (And.intro hr (And.intro h1 (And.intro h2 (And.intro h3 hg))))
  clear hr h1 h2 h3 hg
  go_wp2
  go_ret
  obtain ⟨hr, h1, h2, h3, hg⟩ := HX.out
  have hb : Bk (w1.alloc (.cells #[.int .u64 s, .slice A l.length c, .int .i64 0] 64)) w1.heap.size 64 #[.int .u64 s, .slice A l.length c, .int .i64 0] := Bk.new w1 _ _
  by_cases h0 : l = []
  · subst h0
    exact ⟨w1.heap.size, w1.heap.size, rfl, ⟨A, c, hb, h1, h2, fun h => absurd rfl h⟩, hg.size, hg.size, by simp, grown_up hg (World.grownBy_alloc w1 _ none) (by simp)⟩
  · have hr2 : Rd (w1.alloc (.cells #[.int .u64 s, .slice A l.length c, .int .i64 0] 64)) A (nums l) := hr.grown (World.grownBy_alloc w1 _ none) (by simp)
    obtain ⟨g, o, e, _, hcell⟩ := hr2 (by simpa [nums] using h0)
    have hlt := h3 g o e
    exact ⟨w1.heap.size, g, rfl, ⟨A, c, hb, h1, h2, fun _ => ⟨by omega, by simp; omega, o, e, hcell⟩⟩, hg.size, hlt.1, by simp; omega, grown_up hg (World.grownBy_alloc w1 _ none) (by simp)⟩

/-- What a draw leaves. -/
def Drawn (w : World) (b ga : Nat) (q : Int) (T : TS) (e : Ending) (w' : World) : Prop := e = .returned (.int .u64 (T.val q)) ∧ TapeIs w' b ga (T.next q) ∧ w.grownBy w' (some b)
theorem next_any (b ga : Nat) (q : Int) (T : TS) (w : World) (h : TapeIs w b ga T) (hT : T.ok) (hq : U64 q) :
    Calls Tryz.prog 27 #[.pointer (some ⟨b, 0, none⟩), .int .u64 q] w (Drawn w b ga q T) := by
  obtain ⟨hx, hs, hd0, hd1⟩ := hT
  obtain ⟨A, c, hk, h1, h2, h3⟩ := h
  obtain ⟨l, s, d⟩ := T
  cases l with
  | nil =>
    refine (next_own b A c s d q w hs hq hd0 hd1 hk).mono ?_
    rintro e w' ⟨rfl, hk', hg⟩
    exact ⟨rfl, ⟨A, c, hk', h1, h2, fun h => absurd rfl h⟩, hg⟩
  | cons x l =>
    obtain ⟨hne, hlt, o, rfl, hc⟩ := h3 (by simp)
    have hc0 : w.cell? ⟨ga, o, none⟩ = some (.int .u64 x) := hc 0 _ rfl
    simp only [List.length_cons] at hk h1
    by_cases hlast : 1 < c
    · refine (next_ahead b ga o l.length c x s d q w (hx x (by simp)) hq hd0 hd1 hk hc0 hne (by simpa using h1) hlast h2).mono ?_
      rintro e w' ⟨rfl, hk', hg⟩
      refine ⟨rfl, ⟨_, c - 1, hk', by simp only [TS.next]; omega, by omega, fun _ => ⟨hne, Nat.lt_of_lt_of_le hlt hg.size, o + 1, rfl, fun j u hu => ?_⟩⟩, hg⟩
      rw [World.cell?_of_block (w := w) (hg.block ga hlt (by simpa using hne)), show o + 1 + j = o + (j + 1) by omega]
      exact hc (j + 1) u (by simpa [nums, TS.next] using hu)
    · have hl : l = [] := List.eq_nil_of_length_eq_zero (by omega)
      subst hl
      have hc1 : c = 1 := by simp at h1; omega
      subst hc1
      refine (next_last b ga o x s d q w (hx x (by simp)) hq hd0 hd1 hk hc0 hne).mono ?_
      rintro e w' ⟨rfl, hk', hg⟩
      exact ⟨rfl, ⟨_, 0, hk', Nat.le_refl _, by omega, fun h => absurd rfl h⟩, hg⟩
end Go.Proofs.YthicondcjeipfaaGreatDoor

namespace Go.Proofs.YthicondcjeipfaaGreatDoor
open Go Go.RowKit

/-- A tape behind k draws below q. -/
def tsk (q : Int) (T : TS) : Nat → TS
  | 0 => T
  | k + 1 => (tsk q T k).next q
theorem tsnext_d (q : Int) (T : TS) : (T.next q).d = T.d + 1 := by
  obtain ⟨l, s, d⟩ := T
  cases l <;> rfl
theorem tsnext_ok {q : Int} {T : TS} (h : T.ok) (hd : T.d + 1 < 4611686018427387904) : (T.next q).ok := by
  obtain ⟨hx, hs, hd0, hd1⟩ := h
  obtain ⟨l, s, d⟩ := T
  cases l with
  | nil => exact ⟨by simp [TS.next], drawS_U64 q s hs, by simp [TS.next] at *; omega, by simpa [TS.next] using hd⟩
  | cons x l => exact ⟨fun y hy => hx y (by simp [TS.next] at hy; simp [hy]), hs, by simp [TS.next] at *; omega, by simpa [TS.next] using hd⟩
theorem tsk_ok {q : Int} {T : TS} (h : T.ok) : ∀ k : Nat, T.d + k < 4611686018427387904 → (tsk q T k).ok ∧ (tsk q T k).d = T.d + k
  | 0, _ => ⟨h, by simp [tsk]⟩
  | k + 1, hd => by
    obtain ⟨h1, h2⟩ := tsk_ok h k (by omega)
    refine ⟨tsnext_ok h1 (by omega), ?_⟩
    show ((tsk q T k).next q).d = _
    rw [tsnext_d, h2]
    omega
theorem tsk_ahead {q : Int} {T : TS} (h : ∀ x ∈ T.ahead, U64 x) : ∀ k : Nat, ∀ x ∈ (tsk q T k).ahead, U64 x
  | 0, x, hx => h x hx
  | k + 1, x, hx => by
    have ih := tsk_ahead (q := q) h k
    have hx : x ∈ ((tsk q T k).next q).ahead := hx
    generalize tsk q T k = T1 at ih hx
    obtain ⟨l, s, d⟩ := T1
    cases l with
    | nil => simp [TS.next] at hx
    | cons y l => exact ih x (by simp [TS.next] at hx; simp [hx])
theorem tp_ahead (b ga : Nat) (q : Int) (T : TS) (hT : T.ok) (hd : T.d ≤ 1000) (hq : U64 q) : Tp b q (fun k => (tsk q T k).val q) (fun k w => TapeIs w b ga (tsk q T k) ∧ ga < w.heap.size) (fun x => x = b ∨ x = ga) 1000000 where
  own := .inl rfl
  old := fun h e => by
    rcases e with e | e
    · subst e; exact h.1.lt
    · subst e; exact h.2
  val := fun k => by
    have ih := tsk_ahead (q := q) hT.1 k
    generalize tsk q T k = T1 at ih
    obtain ⟨l, s, d⟩ := T1
    cases l with
    | nil => exact drawX_U64 q s hq
    | cons x l => exact belowI_U64 _ _ (ih x (by simp)) hq
  keep := fun h hg hr => ⟨h.1.grown hg (fun e => hr b e.symm (.inl rfl)) (fun e => hr ga e.symm (.inr rfl)), Nat.lt_of_lt_of_le h.2 hg.size⟩
  next := fun {k w} hk h => (next_any b ga q (tsk q T k) w h.1 (tsk_ok hT k (by omega)).1 hq).mono fun _ _ ⟨h1, h2, h3⟩ => ⟨h1, ⟨h2, Nat.lt_of_lt_of_le h.2 h3.size⟩, h3⟩
end Go.Proofs.YthicondcjeipfaaGreatDoor

namespace Go.Proofs.YthicondcjeipfaaGreatDoor
open Go.RowKit


set_option maxHeartbeats 400000 in
theorem cutU_any (v : Value) (l : List Int) (n k : Nat) (X Y : Nat → Prop) (w : World) (h : Sl encU X w v l) (hn : 1 ≤ n) (hl : l.length = k * n) (hb : l.length ≤ 100000) (hY : ∀ g, w.heap.size ≤ g → Y g) (hXY : ∀ cs y w', Enc.rep encU (fun g => X g ∧ g < w.heap.size) w' cs y → Enc.rep encU (fun g => Y g ∧ g < w.heap.size) w' cs y) :
    Calls Tryz.prog 46 #[v, .int .i64 n] w (Gives (encW encU) Y w (chk n l k)) := by
  have hk : k ≤ 100000 := by
    have : k * 1 ≤ k * n := Nat.mul_le_mul_left k hn
    omega
  have hn2 : k ≠ 0 → n ≤ 100000 := fun h0 => by
    have : 1 * n ≤ k * n := Nat.mul_le_mul_right n (by omega)
    omega
  have HL := Lib.hid hl
  have HN2 := Lib.hid hn2
  have HY := Lib.hid hY
  have HXY := Lib.hid hXY
  have HST : Hid (Sl encU X w v (l.drop (0 * n)) ∧ Acc (encW encU) w.heap.size 29 Y w (.slice none 0 0) (chk n l 0) ∧ w.grownBy w none) := Lib.hid ⟨by simpa using h, Acc.nil _ _ _ _ _, World.grownBy.refl w none⟩
  clear h hl hn2 hY hXY hb
  go_enter Tryz.func46, Tryz.ntmps46
  go_wp2_with fail
  go_loopg [0, 5] k (fun g s0 s5 wx => ∃ j : Nat, j + g = k ∧ Hid (Sl encU X w s0 (l.drop (j * n)) ∧ Acc (encW encU) w.heap.size 29 Y wx s5 (chk n l j) ∧ w.grownBy wx none))
  case atStart => exact ⟨0, by omega, HST⟩
  case round =>
    obtain ⟨j, hj, HX⟩ := hrel
    cases gk with
    | zero =>
      obtain rfl : j = k := by omega
      obtain ⟨hs, hacc, hg⟩ := HX.out
      obtain ⟨A, c, rfl, _, _⟩ := hs.form
      have h0 : (l.drop (j * n)).length = 0 := by rw [List.length_drop, HL.out]; omega
      rw [h0]
      have HR : Hid (Sl (encW encU) Y wr u5 (chk n l j)) := Lib.hid hacc.sl
      have HG := Lib.hid hg
      clear hs hacc hg HX h0 HST
      go_wp2
      go_ret
      exact ⟨_, rfl, HR.out, HG.out⟩
    | succ m =>
      obtain ⟨hs, hacc, hg⟩ := HX.out
      have hmul : (j + 1 + m) * n = j * n + n + m * n := by rw [Nat.add_mul, Nat.add_mul, Nat.one_mul]
      have hlen : l.length = j * n + n + m * n := by rw [HL.out, ← hj, ← hmul]; congr 1; omega
      have hd : (l.drop (j * n)).length = n + m * n := by rw [List.length_drop]; omega
      obtain ⟨A, c, e0, hc1, hc2⟩ := hs.form
      subst e0
      obtain ⟨ga, oa, eA, hga, _⟩ := hs.addr (by omega)
      subst eA
      have HTK : Hid (Sl encU X w (.slice (some ⟨ga, oa, none⟩) n c) ((l.drop (j * n)).take n)) := Lib.hid (hs.take n (by omega))
      have HDR : Hid (Sl encU X w (.slice (some ⟨ga, oa + n, none⟩) (n + m * n - n) (c - n)) (l.drop ((j + 1) * n))) := Lib.hid (by
        rw [hd] at hs
        have := hs.drop n (by omega)
        rwa [List.drop_drop, show j * n + n = (j + 1) * n by rw [Nat.add_mul, Nat.one_mul], show n * Enc.size encU = n from Nat.mul_one n] at this)
      have HD0 : Hid (m = 0 → l.drop ((j + 1) * n) = []) := Lib.hid (fun hm => List.drop_eq_nil_of_le (by rw [hlen, hm, Nat.add_mul]; omega))
      have HTL : Hid (((l.drop (j * n)).take n).length = n) := Lib.hid (by rw [List.length_take, hd]; omega)
      rw [hd] at hc1 ⊢
      have hn3 : n ≤ 100000 := HN2.out (by omega)
      have HAC := Lib.hid hacc
      have HG := Lib.hid hg
      have HSN := Lib.hid (chk_succ n l j)
      have HCL := Lib.hid (chk_length n l j)
      obtain ⟨q, hq⟩ : ∃ q, q = n + m * n := ⟨_, rfl⟩
      rw [← hq] at hc1 ⊢
      have hqn : n ≤ q := by omega
      clear hs hacc hg HX hd hlen hmul HST
      have HQ := Lib.hid hq
      have i1 : (0 : Int) < (q : Int) := by omega
      have i2 : (n : Int) ≤ (q : Int) := by omega
      have i3 : (n : Int) ≤ (c : Int) := by omega
      have i4 : (0 : Int) ≤ (n : Int) := by omega
      clear hq
      have HOW : Hid (∀ g, u5.ownBlock = some g → w.heap.size ≤ g ∧ g < wr.heap.size) := Lib.hid HAC.out.lt
      have HZ : Hid (∀ cs y, Enc.rep encU (fun g => X g ∧ g < w.heap.size) (wr.alloc (.cells #[] 22)) cs y → Enc.rep encU (fun g => (Y g ∧ some g ≠ u5.ownBlock) ∧ some g ≠ (Value.slice (some ⟨wr.heap.size, 0, none⟩) 0 0).ownBlock) (wr.alloc (.cells #[] 22)) cs y) :=
        Lib.hid (fun cs y hr => Enc.more _ (HXY.out _ _ _ hr) fun g _ hg => ⟨⟨hg.1, fun e => by have := HOW.out g e.symm; have := hg.2; omega⟩, fun e => by simp [Value.ownBlock] at e; have := hg.2; have := HG.out.size; omega⟩)
      have HSB : Hid (Sl encU (fun g => X g ∧ g < w.heap.size) (wr.alloc (.cells #[] 22)) (.slice (some ⟨ga, oa, none⟩) n c) ((l.drop (j * n)).take n)) := Lib.hid (HTK.out.bounded.kept (HG.out.trans (World.grownBy_alloc wr _ none)))
      have HBY : Hid ((([] : List Int).length + ((l.drop (j * n)).take n).length) * 8 ≤ 140737488355328) := Lib.hid (by rw [HTL.out]; simp; omega)
      have HNX : Hid (∀ g, (wr.alloc (.cells #[] 22)).heap.size ≤ g → Y g ∧ some g ≠ u5.ownBlock) := Lib.hid (fun g hg => ⟨HY.out g (by have := HG.out.size; simp at hg; omega), fun e => by have := HOW.out g e.symm; simp at hg; omega⟩)
      go_wp2_with (at_builtin; refine wpList_apps rfl (.tmp 13) (.tmp 16) rfl (E := encU) el_u64 (Acc.made _ wr 22 (Nat.le_refl _) (fun g => Y g ∧ some g ≠ u5.ownBlock) ⟨HY.out _ HG.out.size, fun e => by have := HOW.out _ e.symm; omega⟩) rfl rfl HSB.out HZ.out HBY.out (by simp) HNX.out ?_)
      intro v1 w1 hacc1 hg1 hm1
      obtain ⟨A1, c1, e1, _, _⟩ := hacc1.sl.form
      rw [HTL.out] at e1
      subst e1
      have HA1 := Lib.hid hacc1
      have HG1 : Hid (wr.grownBy w1 none) := Lib.hid (grown_up (World.grownBy_alloc wr _ none) hg1 (fun g e => by simp [Value.ownBlock] at e; omega))
      have HREP : Hid (Enc.rep (encW encU) (fun g => Y g ∧ some g ≠ u5.ownBlock) w1 [.slice A1 n c1] ((l.drop (j * n)).take n)) := Lib.hid (by
        have hn0 : 0 < ((l.drop (j * n)).take n).length := by rw [HTL.out]; omega
        exact ⟨_, rfl, hacc1.sl, hacc1.wr hn0⟩)
      clear hacc1 hg1 hm1
      have HLB : Hid (((chk n l j).length + 1) * 24 ≤ 140737488355328) := Lib.hid (by rw [HCL.out]; omega)
      have HAC1 := Lib.hid (HAC.out.kept HG1.out)
      have HG2 := Lib.hid (HG.out.trans HG1.out)
      have HBS : Hid (w.heap.size ≤ w1.heap.size) := Lib.hid HG2.out.size
      have HNY : Hid (∀ g, w1.heap.size ≤ g → Y g) := Lib.hid (fun g hg => HY.out g (Nat.le_trans HBS.out hg))
      go_wp2_with (at_builtin; refine wpList_push rfl (.tmp 12) (.tmp 18) rfl (E := encW encU) el_nums HAC1.out rfl rfl HREP.out HLB.out HBS.out HNY.out ?_)
      intro v2 w2 hacc2 hg2 hm2
      have HG3 : Hid (w.grownBy w2 none) := Lib.hid (grown_up HG2.out hg2 (fun g e => (HAC1.out.lt g e).1))
      have HG4 : Hid (wr.grownBy w2 u5.ownBlock) := Lib.hid ((grown_weak HG1.out).trans hg2)
      have HA2 : Hid (Acc (encW encU) w.heap.size 29 Y w2 v2 (chk n l (j + 1))) := Lib.hid (by rw [HSN.out]; exact hacc2)
      clear hacc2 hg2 hm2
      have HE : Hid (c = n → l.drop ((j + 1) * n) = []) := Lib.hid (fun hcn => HD0.out (by
        rcases Nat.eq_zero_or_pos m with h | h
        · exact h
        · have := Nat.mul_le_mul h (Nat.le_refl n)
          have := HQ.out
          omega))
      have HDR2 : Hid (Sl encU X w (.slice (some ⟨ga, oa + n, none⟩) (q - n) (c - n)) (l.drop ((j + 1) * n))) := Lib.hid (by rw [HQ.out]; exact HDR.out)
      clear HDR
      go_wp2_with fail
      all_goals
        go_roundg m
        case measure => omega
        case rel => first | exact ⟨j + 1, by omega, Lib.hid ⟨HDR2.out, HA2.out, HG3.out⟩⟩ | exact ⟨j + 1, by omega, Lib.hid ⟨by rw [HE.out (by assumption), show q - n = 0 by omega]; exact Sl.empty _ _ _ _ _ (by omega), HA2.out, HG3.out⟩⟩

set_option maxHeartbeats 400000 in
theorem cutR_any (v : Value) (l : List (List Int)) (n k : Nat) (X Y : Nat → Prop) (w : World) (h : Sl (encW encU) X w v l) (hn : 1 ≤ n) (hl : l.length = k * n) (hb : l.length ≤ 100000) (hY : ∀ g, w.heap.size ≤ g → Y g) (hXY : ∀ cs y w', Enc.rep (encW encU) (fun g => X g ∧ g < w.heap.size) w' cs y → Enc.rep (encW encU) (fun g => Y g ∧ g < w.heap.size) w' cs y) :
    Calls Tryz.prog 45 #[v, .int .i64 n] w (Gives (encW (encW encU)) Y w (chk n l k)) := by
  have hk : k ≤ 100000 := by
    have : k * 1 ≤ k * n := Nat.mul_le_mul_left k hn
    omega
  have hn2 : k ≠ 0 → n ≤ 100000 := fun h0 => by
    have : 1 * n ≤ k * n := Nat.mul_le_mul_right n (by omega)
    omega
  have HL := Lib.hid hl
  have HN2 := Lib.hid hn2
  have HY := Lib.hid hY
  have HXY := Lib.hid hXY
  have HST : Hid (Sl (encW encU) X w v (l.drop (0 * n)) ∧ Acc (encW (encW encU)) w.heap.size 47 Y w (.slice none 0 0) (chk n l 0) ∧ w.grownBy w none) := Lib.hid ⟨by simpa using h, Acc.nil _ _ _ _ _, World.grownBy.refl w none⟩
  clear h hl hn2 hY hXY hb
  go_enter Tryz.func45, Tryz.ntmps45
  go_wp2_with fail
  go_loopg [0, 5] k (fun g s0 s5 wx => ∃ j : Nat, j + g = k ∧ Hid (Sl (encW encU) X w s0 (l.drop (j * n)) ∧ Acc (encW (encW encU)) w.heap.size 47 Y wx s5 (chk n l j) ∧ w.grownBy wx none))
  case atStart => exact ⟨0, by omega, HST⟩
  case round =>
    obtain ⟨j, hj, HX⟩ := hrel
    cases gk with
    | zero =>
      obtain rfl : j = k := by omega
      obtain ⟨hs, hacc, hg⟩ := HX.out
      obtain ⟨A, c, rfl, _, _⟩ := hs.form
      have h0 : (l.drop (j * n)).length = 0 := by rw [List.length_drop, HL.out]; omega
      rw [h0]
      have HR : Hid (Sl (encW (encW encU)) Y wr u5 (chk n l j)) := Lib.hid hacc.sl
      have HG := Lib.hid hg
      clear hs hacc hg HX h0 HST
      go_wp2
      go_ret
      exact ⟨_, rfl, HR.out, HG.out⟩
    | succ m =>
      obtain ⟨hs, hacc, hg⟩ := HX.out
      have hmul : (j + 1 + m) * n = j * n + n + m * n := by rw [Nat.add_mul, Nat.add_mul, Nat.one_mul]
      have hlen : l.length = j * n + n + m * n := by rw [HL.out, ← hj, ← hmul]; congr 1; omega
      have hd : (l.drop (j * n)).length = n + m * n := by rw [List.length_drop]; omega
      obtain ⟨A, c, e0, hc1, hc2⟩ := hs.form
      subst e0
      obtain ⟨ga, oa, eA, hga, _⟩ := hs.addr (by omega)
      subst eA
      have HTK : Hid (Sl (encW encU) X w (.slice (some ⟨ga, oa, none⟩) n c) ((l.drop (j * n)).take n)) := Lib.hid (hs.take n (by omega))
      have HDR : Hid (Sl (encW encU) X w (.slice (some ⟨ga, oa + n, none⟩) (n + m * n - n) (c - n)) (l.drop ((j + 1) * n))) := Lib.hid (by
        rw [hd] at hs
        have := hs.drop n (by omega)
        rwa [List.drop_drop, show j * n + n = (j + 1) * n by rw [Nat.add_mul, Nat.one_mul], show n * Enc.size (encW encU) = n from Nat.mul_one n] at this)
      have HD0 : Hid (m = 0 → l.drop ((j + 1) * n) = []) := Lib.hid (fun hm => List.drop_eq_nil_of_le (by rw [hlen, hm, Nat.add_mul]; omega))
      have HTL : Hid (((l.drop (j * n)).take n).length = n) := Lib.hid (by rw [List.length_take, hd]; omega)
      rw [hd] at hc1 ⊢
      have hn3 : n ≤ 100000 := HN2.out (by omega)
      have HAC := Lib.hid hacc
      have HG := Lib.hid hg
      have HSN := Lib.hid (chk_succ n l j)
      have HCL := Lib.hid (chk_length n l j)
      obtain ⟨q, hq⟩ : ∃ q, q = n + m * n := ⟨_, rfl⟩
      rw [← hq] at hc1 ⊢
      have hqn : n ≤ q := by omega
      clear hs hacc hg HX hd hlen hmul HST
      have HQ := Lib.hid hq
      have i1 : (0 : Int) < (q : Int) := by omega
      have i2 : (n : Int) ≤ (q : Int) := by omega
      have i3 : (n : Int) ≤ (c : Int) := by omega
      have i4 : (0 : Int) ≤ (n : Int) := by omega
      clear hq
      have HOW : Hid (∀ g, u5.ownBlock = some g → w.heap.size ≤ g ∧ g < wr.heap.size) := Lib.hid HAC.out.lt
      have HZ : Hid (∀ cs y, Enc.rep (encW encU) (fun g => X g ∧ g < w.heap.size) (wr.alloc (.cells #[] 29)) cs y → Enc.rep (encW encU) (fun g => (Y g ∧ some g ≠ u5.ownBlock) ∧ some g ≠ (Value.slice (some ⟨wr.heap.size, 0, none⟩) 0 0).ownBlock) (wr.alloc (.cells #[] 29)) cs y) :=
        Lib.hid (fun cs y hr => Enc.more _ (HXY.out _ _ _ hr) fun g _ hg => ⟨⟨hg.1, fun e => by have := HOW.out g e.symm; have := hg.2; omega⟩, fun e => by simp [Value.ownBlock] at e; have := hg.2; have := HG.out.size; omega⟩)
      have HSB : Hid (Sl (encW encU) (fun g => X g ∧ g < w.heap.size) (wr.alloc (.cells #[] 29)) (.slice (some ⟨ga, oa, none⟩) n c) ((l.drop (j * n)).take n)) := Lib.hid (HTK.out.bounded.kept (HG.out.trans (World.grownBy_alloc wr _ none)))
      have HBY : Hid ((([] : List (List Int)).length + ((l.drop (j * n)).take n).length) * 24 ≤ 140737488355328) := Lib.hid (by rw [HTL.out]; simp; omega)
      have HNX : Hid (∀ g, (wr.alloc (.cells #[] 29)).heap.size ≤ g → Y g ∧ some g ≠ u5.ownBlock) := Lib.hid (fun g hg => ⟨HY.out g (by have := HG.out.size; simp at hg; omega), fun e => by have := HOW.out g e.symm; simp at hg; omega⟩)
      go_wp2_with (at_builtin; refine wpList_apps rfl (.tmp 13) (.tmp 16) rfl (E := (encW encU)) el_nums (Acc.made _ wr 29 (Nat.le_refl _) (fun g => Y g ∧ some g ≠ u5.ownBlock) ⟨HY.out _ HG.out.size, fun e => by have := HOW.out _ e.symm; omega⟩) rfl rfl HSB.out HZ.out HBY.out (by simp) HNX.out ?_)
      intro v1 w1 hacc1 hg1 hm1
      obtain ⟨A1, c1, e1, _, _⟩ := hacc1.sl.form
      rw [HTL.out] at e1
      subst e1
      have HA1 := Lib.hid hacc1
      have HG1 : Hid (wr.grownBy w1 none) := Lib.hid (grown_up (World.grownBy_alloc wr _ none) hg1 (fun g e => by simp [Value.ownBlock] at e; omega))
      have HREP : Hid (Enc.rep (encW (encW encU)) (fun g => Y g ∧ some g ≠ u5.ownBlock) w1 [.slice A1 n c1] ((l.drop (j * n)).take n)) := Lib.hid (by
        have hn0 : 0 < ((l.drop (j * n)).take n).length := by rw [HTL.out]; omega
        exact ⟨_, rfl, hacc1.sl, hacc1.wr hn0⟩)
      clear hacc1 hg1 hm1
      have HLB : Hid (((chk n l j).length + 1) * 24 ≤ 140737488355328) := Lib.hid (by rw [HCL.out]; omega)
      have HAC1 := Lib.hid (HAC.out.kept HG1.out)
      have HG2 := Lib.hid (HG.out.trans HG1.out)
      have HBS : Hid (w.heap.size ≤ w1.heap.size) := Lib.hid HG2.out.size
      have HNY : Hid (∀ g, w1.heap.size ≤ g → Y g) := Lib.hid (fun g hg => HY.out g (Nat.le_trans HBS.out hg))
      go_wp2_with (at_builtin; refine wpList_push rfl (.tmp 12) (.tmp 18) rfl (E := encW (encW encU)) el_rows HAC1.out rfl rfl HREP.out HLB.out HBS.out HNY.out ?_)
      intro v2 w2 hacc2 hg2 hm2
      have HG3 : Hid (w.grownBy w2 none) := Lib.hid (grown_up HG2.out hg2 (fun g e => (HAC1.out.lt g e).1))
      have HG4 : Hid (wr.grownBy w2 u5.ownBlock) := Lib.hid ((grown_weak HG1.out).trans hg2)
      have HA2 : Hid (Acc (encW (encW encU)) w.heap.size 47 Y w2 v2 (chk n l (j + 1))) := Lib.hid (by rw [HSN.out]; exact hacc2)
      clear hacc2 hg2 hm2
      have HE : Hid (c = n → l.drop ((j + 1) * n) = []) := Lib.hid (fun hcn => HD0.out (by
        rcases Nat.eq_zero_or_pos m with h | h
        · exact h
        · have := Nat.mul_le_mul h (Nat.le_refl n)
          have := HQ.out
          omega))
      have HDR2 : Hid (Sl (encW encU) X w (.slice (some ⟨ga, oa + n, none⟩) (q - n) (c - n)) (l.drop ((j + 1) * n))) := Lib.hid (by rw [HQ.out]; exact HDR.out)
      clear HDR
      go_wp2_with fail
      all_goals
        go_roundg m
        case measure => omega
        case rel => first | exact ⟨j + 1, by omega, Lib.hid ⟨HDR2.out, HA2.out, HG3.out⟩⟩ | exact ⟨j + 1, by omega, Lib.hid ⟨by rw [HE.out (by assumption), show q - n = 0 by omega]; exact Sl.empty _ _ _ _ _ (by omega), HA2.out, HG3.out⟩⟩

set_option maxHeartbeats 400000 in
theorem cutP_any (v : Value) (l : List (Int × Int)) (n k : Nat) (X Y : Nat → Prop) (w : World) (h : Sl encP X w v l) (hn : 1 ≤ n) (hl : l.length = k * n) (hb : l.length ≤ 100000) (hY : ∀ g, w.heap.size ≤ g → Y g) (hXY : ∀ cs y w', Enc.rep encP (fun g => X g ∧ g < w.heap.size) w' cs y → Enc.rep encP (fun g => Y g ∧ g < w.heap.size) w' cs y) :
    Calls Tryz.prog 83 #[v, .int .i64 n] w (Gives (encW encP) Y w (chk n l k)) := by
  have hk : k ≤ 100000 := by
    have : k * 1 ≤ k * n := Nat.mul_le_mul_left k hn
    omega
  have hn2 : k ≠ 0 → n ≤ 100000 := fun h0 => by
    have : 1 * n ≤ k * n := Nat.mul_le_mul_right n (by omega)
    omega
  have HL := Lib.hid hl
  have HN2 := Lib.hid hn2
  have HY := Lib.hid hY
  have HXY := Lib.hid hXY
  have HST : Hid (Sl encP X w v (l.drop (0 * n)) ∧ Acc (encW encP) w.heap.size 39 Y w (.slice none 0 0) (chk n l 0) ∧ w.grownBy w none) := Lib.hid ⟨by simpa using h, Acc.nil _ _ _ _ _, World.grownBy.refl w none⟩
  clear h hl hn2 hY hXY hb
  go_enter Tryz.func83, Tryz.ntmps83
  go_wp2_with fail
  go_loopg [0, 5] k (fun g s0 s5 wx => ∃ j : Nat, j + g = k ∧ Hid (Sl encP X w s0 (l.drop (j * n)) ∧ Acc (encW encP) w.heap.size 39 Y wx s5 (chk n l j) ∧ w.grownBy wx none))
  case atStart => exact ⟨0, by omega, HST⟩
  case round =>
    obtain ⟨j, hj, HX⟩ := hrel
    cases gk with
    | zero =>
      obtain rfl : j = k := by omega
      obtain ⟨hs, hacc, hg⟩ := HX.out
      obtain ⟨A, c, rfl, _, _⟩ := hs.form
      have h0 : (l.drop (j * n)).length = 0 := by rw [List.length_drop, HL.out]; omega
      rw [h0]
      have HR : Hid (Sl (encW encP) Y wr u5 (chk n l j)) := Lib.hid hacc.sl
      have HG := Lib.hid hg
      clear hs hacc hg HX h0 HST
      go_wp2
      go_ret
      exact ⟨_, rfl, HR.out, HG.out⟩
    | succ m =>
      obtain ⟨hs, hacc, hg⟩ := HX.out
      have hmul : (j + 1 + m) * n = j * n + n + m * n := by rw [Nat.add_mul, Nat.add_mul, Nat.one_mul]
      have hlen : l.length = j * n + n + m * n := by rw [HL.out, ← hj, ← hmul]; congr 1; omega
      have hd : (l.drop (j * n)).length = n + m * n := by rw [List.length_drop]; omega
      obtain ⟨A, c, e0, hc1, hc2⟩ := hs.form
      subst e0
      obtain ⟨ga, oa, eA, hga, _⟩ := hs.addr (by omega)
      subst eA
      have HTK : Hid (Sl encP X w (.slice (some ⟨ga, oa, none⟩) n c) ((l.drop (j * n)).take n)) := Lib.hid (hs.take n (by omega))
      have HDR : Hid (Sl encP X w (.slice (some ⟨ga, oa + n * 2, none⟩) (n + m * n - n) (c - n)) (l.drop ((j + 1) * n))) := Lib.hid (by
        rw [hd] at hs
        have := hs.drop n (by omega)
        rwa [List.drop_drop, show j * n + n = (j + 1) * n by rw [Nat.add_mul, Nat.one_mul]] at this)
      have HD0 : Hid (m = 0 → l.drop ((j + 1) * n) = []) := Lib.hid (fun hm => List.drop_eq_nil_of_le (by rw [hlen, hm, Nat.add_mul]; omega))
      have HTL : Hid (((l.drop (j * n)).take n).length = n) := Lib.hid (by rw [List.length_take, hd]; omega)
      rw [hd] at hc1 ⊢
      have hn3 : n ≤ 100000 := HN2.out (by omega)
      have HAC := Lib.hid hacc
      have HG := Lib.hid hg
      have HSN := Lib.hid (chk_succ n l j)
      have HCL := Lib.hid (chk_length n l j)
      obtain ⟨q, hq⟩ : ∃ q, q = n + m * n := ⟨_, rfl⟩
      rw [← hq] at hc1 ⊢
      have hqn : n ≤ q := by omega
      clear hs hacc hg HX hd hlen hmul HST
      have HQ := Lib.hid hq
      have i1 : (0 : Int) < (q : Int) := by omega
      have i2 : (n : Int) ≤ (q : Int) := by omega
      have i3 : (n : Int) ≤ (c : Int) := by omega
      have i4 : (0 : Int) ≤ (n : Int) := by omega
      clear hq
      have HOW : Hid (∀ g, u5.ownBlock = some g → w.heap.size ≤ g ∧ g < wr.heap.size) := Lib.hid HAC.out.lt
      have HZ : Hid (∀ cs y, Enc.rep encP (fun g => X g ∧ g < w.heap.size) (wr.alloc (.cells #[] 38)) cs y → Enc.rep encP (fun g => (Y g ∧ some g ≠ u5.ownBlock) ∧ some g ≠ (Value.slice (some ⟨wr.heap.size, 0, none⟩) 0 0).ownBlock) (wr.alloc (.cells #[] 38)) cs y) :=
        Lib.hid (fun cs y hr => Enc.more _ (HXY.out _ _ _ hr) fun g _ hg => ⟨⟨hg.1, fun e => by have := HOW.out g e.symm; have := hg.2; omega⟩, fun e => by simp [Value.ownBlock] at e; have := hg.2; have := HG.out.size; omega⟩)
      have HSB : Hid (Sl encP (fun g => X g ∧ g < w.heap.size) (wr.alloc (.cells #[] 38)) (.slice (some ⟨ga, oa, none⟩) n c) ((l.drop (j * n)).take n)) := Lib.hid (HTK.out.bounded.kept (HG.out.trans (World.grownBy_alloc wr _ none)))
      have HBY : Hid ((([] : List (Int × Int)).length + ((l.drop (j * n)).take n).length) * 16 ≤ 140737488355328) := Lib.hid (by rw [HTL.out]; simp; omega)
      have HNX : Hid (∀ g, (wr.alloc (.cells #[] 38)).heap.size ≤ g → Y g ∧ some g ≠ u5.ownBlock) := Lib.hid (fun g hg => ⟨HY.out g (by have := HG.out.size; simp at hg; omega), fun e => by have := HOW.out g e.symm; simp at hg; omega⟩)
      go_wp2_with (at_builtin; refine wpList_apps rfl (.tmp 13) (.tmp 16) rfl (E := encP) el_pair (Acc.made _ wr 38 (Nat.le_refl _) (fun g => Y g ∧ some g ≠ u5.ownBlock) ⟨HY.out _ HG.out.size, fun e => by have := HOW.out _ e.symm; omega⟩) rfl rfl HSB.out HZ.out HBY.out (by simp) HNX.out ?_)
      intro v1 w1 hacc1 hg1 hm1
      obtain ⟨A1, c1, e1, _, _⟩ := hacc1.sl.form
      rw [HTL.out] at e1
      subst e1
      have HA1 := Lib.hid hacc1
      have HG1 : Hid (wr.grownBy w1 none) := Lib.hid (grown_up (World.grownBy_alloc wr _ none) hg1 (fun g e => by simp [Value.ownBlock] at e; omega))
      have HREP : Hid (Enc.rep (encW encP) (fun g => Y g ∧ some g ≠ u5.ownBlock) w1 [.slice A1 n c1] ((l.drop (j * n)).take n)) := Lib.hid (by
        have hn0 : 0 < ((l.drop (j * n)).take n).length := by rw [HTL.out]; omega
        exact ⟨_, rfl, hacc1.sl, hacc1.wr hn0⟩)
      clear hacc1 hg1 hm1
      have HLB : Hid (((chk n l j).length + 1) * 24 ≤ 140737488355328) := Lib.hid (by rw [HCL.out]; omega)
      have HAC1 := Lib.hid (HAC.out.kept HG1.out)
      have HG2 := Lib.hid (HG.out.trans HG1.out)
      have HBS : Hid (w.heap.size ≤ w1.heap.size) := Lib.hid HG2.out.size
      have HNY : Hid (∀ g, w1.heap.size ≤ g → Y g) := Lib.hid (fun g hg => HY.out g (Nat.le_trans HBS.out hg))
      go_wp2_with (at_builtin; refine wpList_push rfl (.tmp 12) (.tmp 18) rfl (E := encW encP) el_pairs HAC1.out rfl rfl HREP.out HLB.out HBS.out HNY.out ?_)
      intro v2 w2 hacc2 hg2 hm2
      have HG3 : Hid (w.grownBy w2 none) := Lib.hid (grown_up HG2.out hg2 (fun g e => (HAC1.out.lt g e).1))
      have HG4 : Hid (wr.grownBy w2 u5.ownBlock) := Lib.hid ((grown_weak HG1.out).trans hg2)
      have HA2 : Hid (Acc (encW encP) w.heap.size 39 Y w2 v2 (chk n l (j + 1))) := Lib.hid (by rw [HSN.out]; exact hacc2)
      clear hacc2 hg2 hm2
      have HE : Hid (c = n → l.drop ((j + 1) * n) = []) := Lib.hid (fun hcn => HD0.out (by
        rcases Nat.eq_zero_or_pos m with h | h
        · exact h
        · have := Nat.mul_le_mul h (Nat.le_refl n)
          have := HQ.out
          omega))
      have HDR2 : Hid (Sl encP X w (.slice (some ⟨ga, oa + n * 2, none⟩) (q - n) (c - n)) (l.drop ((j + 1) * n))) := Lib.hid (by rw [HQ.out]; exact HDR.out)
      clear HDR
      go_wp2_with fail
      all_goals
        go_roundg m
        case measure => omega
        case rel => first | exact ⟨j + 1, by omega, Lib.hid ⟨HDR2.out, HA2.out, HG3.out⟩⟩ | exact ⟨j + 1, by omega, Lib.hid ⟨by rw [HE.out (by assumption), show q - n = 0 by omega]; exact Sl.empty _ _ _ _ _ (by omega), HA2.out, HG3.out⟩⟩

end Go.Proofs.YthicondcjeipfaaGreatDoor

namespace Go.Proofs.YthicondcjeipfaaGreatDoor
open Go.RowKit

def dsmallB (p : Par) : Bool := decide (0 ≤ p.K) && decide (p.K ≤ 2) && decide (0 ≤ p.D) && decide (p.D ≤ 4) && decide (0 ≤ p.T) && decide (p.T ≤ 2)
theorem dsmallB_iff (p : Par) : dsmallB p = true ↔ 0 ≤ p.K ∧ p.K ≤ 2 ∧ 0 ≤ p.D ∧ p.D ≤ 4 ∧ 0 ≤ p.T ∧ p.T ≤ 2 := by
  simp [dsmallB, and_assoc]
theorem small_yes (p : Par) (w : World) (h : dsmallB p = true) : Calls Tryz.prog 44 #[p.v] w fun e w' => e = .returned (.bool true) ∧ w.grownBy w' none := by
  obtain ⟨a, b, c, d, e, f⟩ := (dsmallB_iff p).1 h
  clear h
  go_enter Tryz.func44, Tryz.ntmps44
  go_wp2_with fail
  all_goals
    go_ret
    exact ⟨rfl, World.grownBy_alloc w _ none⟩
theorem small_no (p : Par) (w : World) (h : dsmallB p = false) : Calls Tryz.prog 44 #[p.v] w fun e w' => e = .returned (.bool false) ∧ w.grownBy w' none := by
  have hn : ¬ (0 ≤ p.K ∧ p.K ≤ 2 ∧ 0 ≤ p.D ∧ p.D ≤ 4 ∧ 0 ≤ p.T ∧ p.T ≤ 2) := fun k => by rw [(dsmallB_iff p).2 k] at h; cases h
  clear h
  by_cases a : 0 ≤ p.K
  · by_cases c : 0 ≤ p.D
    · by_cases e : 0 ≤ p.T
      · by_cases b : p.K ≤ 2
        · by_cases d : p.D ≤ 4
          · have f : ¬ p.T ≤ 2 := by omega
            clear hn
            go_enter Tryz.func44, Tryz.ntmps44
            go_wp2_with fail
            all_goals (first | (go_ret; exact ⟨rfl, World.grownBy_alloc w _ none⟩) | (exfalso; omega))
          · clear hn
            go_enter Tryz.func44, Tryz.ntmps44
            go_wp2_with fail
            all_goals (first | (go_ret; exact ⟨rfl, World.grownBy_alloc w _ none⟩) | (exfalso; omega))
        · clear hn
          go_enter Tryz.func44, Tryz.ntmps44
          go_wp2_with fail
          all_goals (first | (go_ret; exact ⟨rfl, World.grownBy_alloc w _ none⟩) | (exfalso; omega))
      · clear hn
        go_enter Tryz.func44, Tryz.ntmps44
        go_wp2_with fail
        all_goals (first | (go_ret; exact ⟨rfl, World.grownBy_alloc w _ none⟩) | (exfalso; omega))
    · clear hn
      go_enter Tryz.func44, Tryz.ntmps44
      go_wp2_with fail
      all_goals (first | (go_ret; exact ⟨rfl, World.grownBy_alloc w _ none⟩) | (exfalso; omega))
  · clear hn
    go_enter Tryz.func44, Tryz.ntmps44
    go_wp2_with fail
    all_goals (first | (go_ret; exact ⟨rfl, World.grownBy_alloc w _ none⟩) | (exfalso; omega))
theorem dlret_i64 {a b : Int} (h : a = b) : Ending.returned (.int .i64 a) = .returned (.int .i64 b) := by rw [h]
def secI (p : Par) : Int := p.K * (p.D + 1)
theorem secI_bds {p : Par} (h : dsmallB p = true) : 0 ≤ secI p ∧ secI p ≤ 10 := by
  obtain ⟨a, b, c, d, e, f⟩ := (dsmallB_iff p).1 h
  have h1 : p.K * (p.D + 1) ≤ 2 * 5 := Int.mul_le_mul b (by omega) (by omega) (by omega)
  have h2 : 0 ≤ p.K * (p.D + 1) := Int.mul_nonneg a (by omega)
  unfold secI
  omega
theorem dlsecrets_any (p : Par) (w : World) (h : dsmallB p = true) : Calls Tryz.prog 25 #[p.v] w fun e w' => e = .returned (.int .i64 (secI p)) ∧ w.grownBy w' none := by
  obtain ⟨a, b, c, d, e, f⟩ := (dsmallB_iff p).1 h
  have HE : Hid (p.K * (p.D + 1) = secI p) := Lib.hid rfl
  have h1 : p.K * (p.D + 1) ≤ 2 * 5 := Int.mul_le_mul b (by omega) (by omega) (by omega)
  have h2 : 0 ≤ p.K * (p.D + 1) := Int.mul_nonneg a (by omega)
  clear h
  go_enter Tryz.func25, Tryz.ntmps25
  go_wp2_with fail
  go_ret
  exact ⟨dlret_i64 HE.out, World.grownBy_alloc w _ none⟩
theorem pairedf_any (v : Value) (a b : Int) (X : Nat → Prop) (w : World) (h : Sl encU X w v [a, b]) : Calls Tryz.prog 85 #[v] w fun e w' => e = .returned (.agg #[.int .u64 a, .int .u64 b]) ∧ w.grownBy w' none := by
  have H := Lib.hid h
  obtain ⟨A, c, rfl, hc1, hc2⟩ := h.form
  obtain ⟨g, o, c', e, hg, _, h0, _⟩ := H.out.atU (k := 0) (by simp)
  injection e with e1 e2 e3
  subst e1 e3
  obtain ⟨g', o', c'', e, _, _, h1, _⟩ := H.out.atU (k := 1) (by simp)
  injection e with e1 e2 e3
  injection e1 with e1
  injection e1 with e1 e4
  subst e1 e4
  simp only [List.getElem_cons_zero, List.getElem_cons_succ, Nat.add_zero] at h0 h1
  have h2 : ([a, b].length : Nat) = 2 := rfl
  rw [h2]
  have n0 := World.new_ne w _ h0
  have n1 := World.new_ne w _ h1
  have z0 := fun n => (zero_pair w n).1
  have z1 := fun n => (zero_pair w n).2.1
  have z2 := fun n => (zero_pair w n).2.2.1
  have z3 := fun n => (zero_pair w n).2.2.2
  clear h e2 e3 h2 hc1
  go_enter Tryz.func85, Tryz.ntmps85
  go_wp2_with fail
  go_region_held3 (fun w' => w'.cell? ⟨g, o, none⟩ = some (.int .u64 a) ∧ w'.cell? ⟨g, o + 1, none⟩ = some (.int .u64 b)) (go_keep) (fail)
  go_wp2_with fail
  refine bodyPost_ret (v := .agg #[.int .u64 a, .int .u64 b]) (by simp [results, Tryz.results85, go_sem]) rfl ⟨rfl, ?_⟩
  exact grownBy_drewN (World.grownBy_alloc w _ none) 1
def pairOf (l : List Int) : Int × Int := (l[0]?.getD 0, l[1]?.getD 0)
theorem map_take_snoc {α β : Type} (f : α → β) (l : List α) (j : Nat) (h : j < l.length) : (l.take (j + 1)).map f = (l.take j).map f ++ [f l[j]] := by
  rw [List.take_succ_eq_append_getElem h, List.map_append]
  rfl
theorem pairOf_rep {X : Nat → Prop} {w : World} {v : Value} {l : List Int} (h : Sl encU X w v l) (h2 : l.length = 2) : U64 (pairOf l).1 ∧ U64 (pairOf l).2 ∧ l = [(pairOf l).1, (pairOf l).2] := by
  match l, h2 with
  | [a, b], _ =>
    obtain ⟨_, _, _, _, _, _, _, u0⟩ := h.atU (k := 0) (by simp)
    obtain ⟨_, _, _, _, _, _, _, u1⟩ := h.atU (k := 1) (by simp)
    exact ⟨u0, u1, rfl⟩
theorem pairedf_of (v : Value) (l : List Int) (X : Nat → Prop) (w : World) (h : Sl encU X w v l) (h2 : l.length = 2) : Calls Tryz.prog 85 #[v] w fun e w' => e = .returned (.agg #[.int .u64 (pairOf l).1, .int .u64 (pairOf l).2]) ∧ w.grownBy w' none := by
  obtain ⟨_, _, q⟩ := pairOf_rep h h2
  exact pairedf_any v _ _ X w (q ▸ h)
set_option maxHeartbeats 400000 in
theorem eachp_any (v : Value) (ls : List (List Int)) (X : Nat → Prop) (w : World) (h : Sl (encS encU) X w v ls) (h2 : ∀ l ∈ ls, l.length = 2) (hb : ls.length ≤ 100000) :
    Calls Tryz.prog 84 #[v, .func (.func 85) #[] #[]] w (Gives encP (fun g => w.heap.size ≤ g) w (ls.map pairOf)) := by
  have H := Lib.hid h
  have H2 := Lib.hid h2
  have HST : Hid (Acc encP w.heap.size 38 (fun g => w.heap.size ≤ g) w (.slice none 0 0) ((ls.take 0).map pairOf) ∧ w.grownBy w none) := Lib.hid ⟨Acc.nil _ _ _ _ _, World.grownBy.refl w none⟩
  obtain ⟨A, c, rfl, hc1, hc2⟩ := h.form
  clear h h2
  go_enter Tryz.func84, Tryz.ntmps84
  go_wp2_with fail
  go_loopg [5, 10] ls.length (fun g s5 s10 wx => ∃ j : Nat, j + g = ls.length ∧ s10 = .int .i64 j ∧ Hid (Acc encP w.heap.size 38 (fun g => w.heap.size ≤ g) wx s5 ((ls.take j).map pairOf) ∧ w.grownBy wx none))
  case atStart => exact ⟨0, by omega, rfl, HST⟩
  case round =>
    obtain ⟨j, hj, rfl, HX⟩ := hrel
    cases gk with
    | zero =>
      obtain rfl : j = ls.length := by omega
      have HR : Hid (Sl encP (fun g => w.heap.size ≤ g) wr u5 (ls.map pairOf)) := Lib.hid (by have := HX.out.1.sl; rwa [List.take_length] at this)
      have HG := Lib.hid HX.out.2
      clear HX HST
      go_wp2
      go_ret
      exact ⟨_, rfl, HR.out, HG.out⟩
    | succ m =>
      have hjn : (j : Int) < (ls.length : Int) := by omega
      have hjN : j < ls.length := by omega
      obtain ⟨hacc, hg⟩ := HX.out
      obtain ⟨g, o, c', u, e, _, _, hcu, hsu⟩ := (H.out.kept hg).atS hjN
      injection e with e1 e2 e3
      subst e1 e3
      obtain ⟨A1, c1, e1, _, _⟩ := hsu.form
      have h2j := H2.out _ (List.getElem_mem hjN)
      rw [h2j] at e1
      subst e1
      obtain ⟨q1, q2, _⟩ := pairOf_rep hsu h2j
      have HSN := Lib.hid (map_take_snoc pairOf ls j hjN)
      have HF := Lib.hid (pairedf_of _ ls[j] X wr hsu h2j)
      have HREP : Hid (U64 (pairOf ls[j]).1 ∧ U64 (pairOf ls[j]).2) := Lib.hid ⟨q1, q2⟩
      have HAC := Lib.hid hacc
      have HG := Lib.hid hg
      have HLB : Hid ((((ls.take j).map pairOf).length + 1) * 16 ≤ 140737488355328) := Lib.hid (by simp; omega)
      clear hacc hg hsu e2 q1 q2 h2j HX HST
      generalize pairOf ls[j] = pj at *
      go_wp2_with fail
      refine HF.out.mono ?_
      rintro e' w1 ⟨rfl, hg1⟩
      have HG1 := Lib.hid hg1
      have HG2 := Lib.hid (HG.out.trans hg1)
      have HA1 := Lib.hid (HAC.out.kept hg1)
      clear hg1
      go_wp2_with (at_builtin; refine wpList_pushG rfl (.tmp 14) (.tmp 18) rfl (E := encP) el_pair HG2.out HA1.out (fun _ h => h) ⟨rfl, HREP.out⟩ HLB.out rfl rfl ?_)
      intro v2 w2 hacc2 hg2 _
      have HFIN : Hid (Acc encP w.heap.size 38 (fun g => w.heap.size ≤ g) w2 v2 ((ls.take (j + 1)).map pairOf) ∧ w.grownBy w2 none) := Lib.hid ⟨by rw [HSN.out]; simpa using hacc2, hg2⟩
      clear hacc2 hg2
      go_wp2_with fail
      go_roundg m
      case measure => omega
      case rel => exact ⟨j + 1, by omega, by go_num, HFIN⟩
/-- The pairs that numbers are, k of them. -/
def prsI (l : List Int) (k : Nat) : List (Int × Int) := (chk 2 l k).map pairOf
theorem prsI_length (l : List Int) (k : Nat) : (prsI l k).length = k := by simp [prsI, chk_length]
set_option maxHeartbeats 400000 in
theorem paired_any (v : Value) (l : List Int) (k : Nat) (X : Nat → Prop) (w : World) (h : Sl encU X w v l) (hl : l.length = k * 2) (hb : l.length ≤ 100000) :
    Calls Tryz.prog 48 #[v] w (Gives encP (fun g => w.heap.size ≤ g) w (prsI l k)) := by
  have HC := Lib.hid (cutU_any v l 2 k X (fun _ => True) w h (by decide) hl hb (fun _ _ => trivial) (fun _ _ _ h => h))
  have HK : Hid (k ≤ 100000) := Lib.hid (by omega)
  have H2 : Hid (∀ x ∈ chk 2 l k, x.length = 2) := Lib.hid (fun x hx => by
    obtain ⟨j, hj, rfl⟩ := List.mem_map.1 hx
    have hj' : j < k := by simpa using hj
    rw [List.length_take, List.length_drop, hl]
    omega)
  clear h hl hb
  go_enter Tryz.func48, Tryz.ntmps48
  go_wp2_with fail
  refine HC.out.mono ?_
  rintro e w1 ⟨v1, rfl, hs, hg⟩
  have HG := Lib.hid hg
  have HE := Lib.hid (eachp_any v1 (chk 2 l k) _ w1 hs.plain H2.out (by rw [chk_length]; exact HK.out))
  clear hs hg
  go_wp2_with fail
  refine HE.out.mono ?_
  rintro e w2 ⟨v2, rfl, hs, hg⟩
  have HFIN : Hid (Sl encP (fun g => w.heap.size ≤ g) w2 v2 (prsI l k) ∧ w.grownBy w2 none) := Lib.hid ⟨hs.more (fun g _ hg' => Nat.le_trans HG.out.size hg'), HG.out.trans hg⟩
  clear hs hg
  go_wp2
  go_ret
  exact ⟨_, rfl, HFIN.out.1, HFIN.out.2⟩
end Go.Proofs.YthicondcjeipfaaGreatDoor

namespace Go.Proofs.YthicondcjeipfaaGreatDoor
open Go.RowKit

set_option maxHeartbeats 400000 in
theorem lists_any (v : Value) (l : List (Int × Int)) (n k : Nat) (X Y : Nat → Prop) (w : World) (h : Sl encP X w v l) (hl : l.length = n * k) (hn : n ≤ 100) (hk : k ≤ 100) (hY : ∀ g, w.heap.size ≤ g → Y g) :
    Calls Tryz.prog 47 #[v, .int .i64 n, .int .i64 k] w (Gives (encS encP) Y w (chk k l n)) := by
  have hlb : l.length ≤ 100000 := by
    have : n * k ≤ 100 * 100 := Nat.mul_le_mul hn hk
    omega
  by_cases h0 : k = 0
  · subst h0
    have HE : Hid (chk 0 l n = List.replicate n []) := Lib.hid (by simp [chk, List.map_const'])
    obtain ⟨A, c, rfl, _, _⟩ := h.form
    have hmk := run_make_row' (P := Tryz.prog) 41 39 (.slice none 0 0) 24 Tryz.underlying41 info_pairs rfl .i64 .i64 n (by omega) (by omega)
    have HN := Lib.hid (And.intro hn (hY _ (Nat.le_refl _)))
    clear h hl hlb hY
    go_enter Tryz.func47, Tryz.ntmps47
    go_wp2
    go_ret
    have hb : Bk (w.alloc (.cells (madeCells #[.slice none 0 0] n) 39)) w.heap.size 39 (madeCells #[.slice none 0 0] n) := Bk.new w _ _
    exact ⟨_, rfl, by rw [HE.out]; exact Sl.nils encP Y hb HN.out.2 (by have := HN.out.1; omega), World.grownBy_alloc w _ none⟩
  · have hk1 : 1 ≤ k := by omega
    have hkI : ((k : Int) == 0) = false := by simp; omega
    have HC := Lib.hid (cutP_any v l k n X Y w h hk1 hl hlb hY (fun _ _ _ h => h))
    clear h hl hY hlb h0
    go_enter Tryz.func47, Tryz.ntmps47
    go_wp2_with fail
    refine HC.out.mono ?_
    rintro e w1 ⟨v1, rfl, hs, hg⟩
    have HS := Lib.hid hs.plain
    have HG := Lib.hid hg
    clear hs hg
    go_wp2
    go_ret
    exact ⟨_, rfl, HS.out, HG.out⟩
/-- What OpenPairs tells: nothing but an error, or the pairs. -/
def opE (p : Par) (n : Nat) : Int := if dsmallB p = true then (if (n : Int) = 2 * secI p then 0 else 4) else 1
def opL (p : Par) (l : List Int) : List (Int × Int) := if opE p l.length = 0 then prsI l (secI p).toNat else []
set_option maxHeartbeats 400000 in
theorem openPairs_any (p : Par) (v : Value) (l : List Int) (X : Nat → Prop) (w : World) (h : Sl encU X w v l) (_hb : l.length ≤ 1500) :
    Calls Tryz.prog 17 #[p.v, v] w (GivesE encP (fun g => w.heap.size ≤ g) w (opL p l) (opE p l.length)) := by
  have H := Lib.hid h
  obtain ⟨A, c, rfl, _, _⟩ := h.form
  have HB0 : Hid (Bk (w.alloc (Obj.cells p.cells 24)) w.heap.size 24 p.cells) := Lib.hid (Bk.new w _ _)
  have HG0 : Hid (w.grownBy (w.alloc (Obj.cells p.cells 24)) none) := Lib.hid (World.grownBy_alloc w _ none)
  clear h
  cases hs : dsmallB p with
  | false =>
    have HE : Hid (opE p l.length = 1 ∧ opL p l = []) := Lib.hid (by simp [opL, opE, hs])
    have HC := Lib.hid (fun w => small_no p w hs)
    clear hs
    go_enter Tryz.func17, Tryz.ntmps17
    go_wp2_with fail
    refine (HC.out _).mono ?_
    rintro e w1 ⟨rfl, hg⟩
    have HG := hidTrans hg HG0
    clear hg
    go_wp2
    go_ret2
    rw [HE.out.1, HE.out.2]
    exact ⟨_, rfl, Sl.nil _ _ _, HG.out⟩
  | true =>
    have HC := Lib.hid (fun w => small_yes p w hs)
    have HS := Lib.hid (fun w => dlsecrets_any p w hs)
    obtain ⟨b1, b2⟩ := secI_bds hs
    by_cases hl : (l.length : Int) = 2 * secI p
    · have HE : Hid (opE p l.length = 0 ∧ opL p l = prsI l (secI p).toNat) := Lib.hid (by simp [opL, opE, hs, hl])
      have hd : ((l.length : Int) != 2 * secI p) = false := by simpa using hl
      have HP := Lib.hid (fun (w' : World) (hw : w.grownBy w' none) => paired_any _ l (secI p).toNat X w' (H.out.kept hw) (by omega) (by omega))
      clear hs hl
      go_enter Tryz.func17, Tryz.ntmps17
      go_wp2_with fail
      refine (HC.out _).mono ?_
      rintro e w1 ⟨rfl, hg⟩
      have HG1 := hidTrans hg HG0
      have HB1 := bkGrown hg HB0
      have hp1 := HB1.out.prule
      clear hg
      go_wp2_with fail
      refine (HS.out _).mono ?_
      rintro e w2 ⟨rfl, hg⟩
      have HG2 := hidTrans hg HG1
      clear hg hp1
      generalize secI p = q at *
      go_wp2_with fail
      refine (HP.out _ HG2.out).mono ?_
      rintro e w3 ⟨v3, rfl, hs3, hg3⟩
      have HFIN : Hid (Sl encP (fun g => w.heap.size ≤ g) w3 v3 (prsI l q.toNat) ∧ w.grownBy w3 none) := Lib.hid ⟨hs3.more (fun g _ h => Nat.le_trans HG2.out.size h), HG2.out.trans hg3⟩
      clear hs3 hg3
      go_wp2
      go_ret2
      rw [HE.out.1, HE.out.2]
      exact ⟨_, rfl, HFIN.out.1, HFIN.out.2⟩
    · have HE : Hid (opE p l.length = 4 ∧ opL p l = []) := Lib.hid (by simp [opL, opE, hs, hl])
      have hd : ((l.length : Int) != 2 * secI p) = true := by simpa using hl
      clear hs hl
      go_enter Tryz.func17, Tryz.ntmps17
      go_wp2_with fail
      refine (HC.out _).mono ?_
      rintro e w1 ⟨rfl, hg⟩
      have HG1 := hidTrans hg HG0
      have HB1 := bkGrown hg HB0
      have hp1 := HB1.out.prule
      clear hg
      go_wp2_with fail
      refine (HS.out _).mono ?_
      rintro e w2 ⟨rfl, hg⟩
      have HG2 := hidTrans hg HG1
      clear hg hp1
      generalize secI p = q at *
      go_wp2
      go_ret2
      rw [HE.out.1, HE.out.2]
      exact ⟨_, rfl, Sl.nil _ _ _, HG2.out⟩
/-- What OpenComs tells. -/
def ocE (p : Par) (n : Nat) : Int := if dsmallB p = true then (if (n : Int) = (p.T + 1) * secI p then 0 else 4) else 1
def ocL (p : Par) (l : List Int) : List (List Int) := if ocE p l.length = 0 then chk (p.T + 1).toNat l (secI p).toNat else []
theorem sec_nat {p : Par} (h : dsmallB p = true) : ∃ q t : Nat, secI p = (q : Int) ∧ p.T + 1 = (t : Int) ∧ q ≤ 10 ∧ 1 ≤ t ∧ t ≤ 3 := by
  obtain ⟨a, b, c, d, e, f⟩ := (dsmallB_iff p).1 h
  obtain ⟨h1, h2⟩ := secI_bds h
  exact ⟨(secI p).toNat, (p.T + 1).toNat, by omega, by omega, by omega, by omega, by omega⟩
set_option maxHeartbeats 400000 in
theorem openComs_any (p : Par) (v : Value) (l : List Int) (X : Nat → Prop) (w : World) (h : Sl encU X w v l) (_hb : l.length ≤ 1500) :
    Calls Tryz.prog 18 #[p.v, v] w (GivesE (encW encU) (fun g => w.heap.size ≤ g) w (ocL p l) (ocE p l.length)) := by
  have H := Lib.hid h
  obtain ⟨A, c, rfl, _, _⟩ := h.form
  have HB0 : Hid (Bk (w.alloc (Obj.cells p.cells 24)) w.heap.size 24 p.cells) := Lib.hid (Bk.new w _ _)
  have HG0 : Hid (w.grownBy (w.alloc (Obj.cells p.cells 24)) none) := Lib.hid (World.grownBy_alloc w _ none)
  clear h
  cases hs : dsmallB p with
  | false =>
    have HE : Hid (ocE p l.length = 1 ∧ ocL p l = []) := Lib.hid (by simp [ocL, ocE, hs])
    have HC := Lib.hid (fun w => small_no p w hs)
    clear hs
    go_enter Tryz.func18, Tryz.ntmps18
    go_wp2_with fail
    refine (HC.out _).mono ?_
    rintro e w1 ⟨rfl, hg⟩
    have HG := hidTrans hg HG0
    clear hg
    go_wp2
    go_ret2
    rw [HE.out.1, HE.out.2]
    exact ⟨_, rfl, Sl.nil _ _ _, HG.out⟩
  | true =>
    have HC := Lib.hid (fun w => small_yes p w hs)
    have HS := Lib.hid (fun w => dlsecrets_any p w hs)
    obtain ⟨q, t, hq, ht, q1, t1, t2⟩ := sec_nat hs
    have HQ := Lib.hid hq
    have HT := Lib.hid ht
    have m1 : (t : Int) * (q : Int) ≤ 3 * 10 := Int.mul_le_mul (by omega) (by omega) (by omega) (by omega)
    have m0 : 0 ≤ (t : Int) * (q : Int) := Int.mul_nonneg (by omega) (by omega)
    have k1 : IntKind.i64.wrap (p.T + 1) = (t : Int) := by rw [ht]; exact IntWalk.i64_in _ (by omega)
    have k2 : IntKind.i64.wrap ((t : Int) * (q : Int)) = (t : Int) * (q : Int) := IntWalk.i64_in _ (by omega)
    by_cases hl : (l.length : Int) = (t : Int) * (q : Int)
    · have HE : Hid (ocE p l.length = 0 ∧ ocL p l = chk t l q) := Lib.hid (by simp [ocL, ocE, hs, hl, hq, ht])
      have hd : ((l.length : Int) != (t : Int) * (q : Int)) = false := by simpa using hl
      have hl2 : l.length = q * t := by rw [Nat.mul_comm]; exact_mod_cast hl
      have HP := Lib.hid (fun (w' : World) (hw : w.grownBy w' none) => cutU_any _ l t q X (fun g => w.heap.size ≤ g) w' (H.out.kept hw) t1 hl2 (by omega) (fun g h => Nat.le_trans hw.size h) (fun _ _ _ h => h))
      rw [hq] at HS
      clear hs hl hl2 hq m0 m1 ht
      go_enter Tryz.func18, Tryz.ntmps18
      go_wp2_with fail
      refine (HC.out _).mono ?_
      rintro e w1 ⟨rfl, hg⟩
      have HG1 := hidTrans hg HG0
      have HB1 := bkGrown hg HB0
      have hp1 := HB1.out.prule
      have hs1 := HB1.out.lt
      clear hg
      go_wp2_with fail
      have HG4 : Hid (w.grownBy w1.drew none) := Lib.hid (grownBy_drewN HG1.out 1)
      have HB4 : Hid (Bk w1.drew w.heap.size 24 p.cells) := Lib.hid (HB1.out.drewN 1)
      go_region_held3 (fun w' => ∀ o, w'.cell? ⟨w.heap.size, o, none⟩ = (#[.int .u64 p.P, .int .u64 p.Q, .int .u64 p.G, .int .u64 p.H, .int .i64 p.Nodes, .int .i64 p.N, .int .i64 p.T, .int .i64 p.K, .int .i64 p.D, .int .i64 p.R, .int .i64 p.M, .int .i64 p.X] : Array Value)[o]?) (first | assumption | exact rule_alloc (by assumption) (by assumption) _ | go_keep) (first
        | (go_at_call 25; (with_reducible refine (HS.out _).mono ?_); rintro e' w' ⟨rfl, hg⟩; have HGx := hidTrans hg (by assumption); have HBx := bkGrown hg (by assumption); have hpx := HBx.out.prule; have hsx := HBx.out.lt; clear hg))
      go_wp2_with fail
      refine (HP.out _ HGx.out).mono ?_
      rintro e w3 ⟨v3, rfl, hs3, hg3⟩
      have HFIN := Lib.hid (And.intro hs3 (HGx.out.trans hg3))
      clear hs3 hg3
      go_wp2
      go_ret2
      rw [HE.out.1, HE.out.2]
      exact ⟨_, rfl, HFIN.out.1, HFIN.out.2⟩
    · have HE : Hid (ocE p l.length = 4 ∧ ocL p l = []) := Lib.hid (by simp [ocL, ocE, hs, hl, hq, ht])
      have hd : ((l.length : Int) != (t : Int) * (q : Int)) = true := by simpa using hl
      rw [hq] at HS
      clear hs hl hq m0 m1 ht
      go_enter Tryz.func18, Tryz.ntmps18
      go_wp2_with fail
      refine (HC.out _).mono ?_
      rintro e w1 ⟨rfl, hg⟩
      have HG1 := hidTrans hg HG0
      have HB1 := bkGrown hg HB0
      have hp1 := HB1.out.prule
      have hs1 := HB1.out.lt
      clear hg
      go_wp2_with fail
      have HG4 : Hid (w.grownBy w1.drew none) := Lib.hid (grownBy_drewN HG1.out 1)
      have HB4 : Hid (Bk w1.drew w.heap.size 24 p.cells) := Lib.hid (HB1.out.drewN 1)
      go_region_held3 (fun w' => ∀ o, w'.cell? ⟨w.heap.size, o, none⟩ = (#[.int .u64 p.P, .int .u64 p.Q, .int .u64 p.G, .int .u64 p.H, .int .i64 p.Nodes, .int .i64 p.N, .int .i64 p.T, .int .i64 p.K, .int .i64 p.D, .int .i64 p.R, .int .i64 p.M, .int .i64 p.X] : Array Value)[o]?) (first | assumption | exact rule_alloc (by assumption) (by assumption) _ | go_keep) (first
        | (go_at_call 25; (with_reducible refine (HS.out _).mono ?_); rintro e' w' ⟨rfl, hg⟩; have HGx := hidTrans hg (by assumption); have HBx := bkGrown hg (by assumption); have hpx := HBx.out.prule; have hsx := HBx.out.lt; clear hg))
      go_wp2_with fail
      go_ret2
      rw [HE.out.1, HE.out.2]
      exact ⟨_, rfl, Sl.nil _ _ _, HGx.out⟩
/-- What Open tells. -/
def opnE (p : Par) (n : Nat) (k : Int) : Int := if dsmallB p = true ∧ 0 ≤ k ∧ k ≤ 3 then (if (n : Int) = secI p * (p.T + 1) * (p.T + 1) + 2 * (2 * secI p * k) then 0 else 4) else 1
def opnM (p : Par) (l : List Int) (k : Int) : List (List (List Int)) := if opnE p l.length k = 0 then chk (p.T + 1).toNat (chk (p.T + 1).toNat (l.take ((secI p).toNat * (p.T + 1).toNat * (p.T + 1).toNat)) ((secI p).toNat * (p.T + 1).toNat)) (secI p).toNat else []
def opnA (p : Par) (l : List Int) (k : Int) : List (List (Int × Int)) := if opnE p l.length k = 0 then chk k.toNat (prsI ((l.drop ((secI p).toNat * (p.T + 1).toNat * (p.T + 1).toNat)).take (2 * (secI p).toNat * k.toNat)) ((secI p).toNat * k.toNat)) (secI p).toNat else []
def opnB (p : Par) (l : List Int) (k : Int) : List (List (Int × Int)) := if opnE p l.length k = 0 then chk k.toNat (prsI (l.drop ((secI p).toNat * (p.T + 1).toNat * (p.T + 1).toNat + 2 * (secI p).toNat * k.toNat)) ((secI p).toNat * k.toNat)) (secI p).toNat else []
def Gives4 (Y : Nat → Prop) (w : World) (m : List (List (List Int))) (a b : List (List (Int × Int))) (n : Int) (e : Ending) (w' : World) : Prop :=
  ∃ vm va vb, e = .returned (.tuple #[vm, va, vb, .int .i64 n]) ∧ Sl (encW (encW encU)) Y w' vm m ∧ Sl (encS encP) Y w' va a ∧ Sl (encS encP) Y w' vb b ∧ w.grownBy w' none
set_option maxHeartbeats 1000000 in
theorem open_any (p : Par) (v : Value) (l : List Int) (k : Int) (X : Nat → Prop) (w : World) (h : Sl encU X w v l) (hb : l.length ≤ 1500) (hk : I64 k) :
    Calls Tryz.prog 16 #[p.v, v, .int .i64 k] w (Gives4 (fun g => w.heap.size ≤ g) w (opnM p l k) (opnA p l k) (opnB p l k) (opnE p l.length k)) := by
  have H := Lib.hid h
  obtain ⟨A, c, rfl, hlc, hcm⟩ := h.form
  have HB0 : Hid (Bk (w.alloc (Obj.cells p.cells 24)) w.heap.size 24 p.cells) := Lib.hid (Bk.new w _ _)
  have HG0 : Hid (w.grownBy (w.alloc (Obj.cells p.cells 24)) none) := Lib.hid (World.grownBy_alloc w _ none)
  have hp0 := HB0.out.prule
  obtain ⟨k0, k1⟩ := hk
  clear h
  cases hs : dsmallB p with
  | false =>
    have HE : Hid (opnE p l.length k = 1 ∧ opnM p l k = [] ∧ opnA p l k = [] ∧ opnB p l k = []) := Lib.hid (by simp [opnM, opnA, opnB, opnE, hs])
    have HC := Lib.hid (fun w => small_no p w hs)
    clear hs
    go_enter Tryz.func16, Tryz.ntmps16
    go_wp2_with fail
    refine (HC.out _).mono ?_
    rintro e w1 ⟨rfl, hg⟩
    have HG := hidTrans hg HG0
    clear hg
    go_wp2
    refine bodyPost_ret (v := .tuple #[.slice none 0 0, .slice none 0 0, .slice none 0 0, .int .i64 1]) (by simp [results, Tryz.results16, go_sem]) rfl ?_
    rw [HE.out.1, HE.out.2.1, HE.out.2.2.1, HE.out.2.2.2]
    exact ⟨_, _, _, rfl, Sl.nil _ _ _, Sl.nil _ _ _, Sl.nil _ _ _, HG.out⟩
  | true =>
    have HC := Lib.hid (fun w => small_yes p w hs)
    by_cases hk3 : 0 ≤ k ∧ k ≤ 3
    · obtain ⟨k2, k3⟩ := hk3
      have HS := Lib.hid (fun w => dlsecrets_any p w hs)
      obtain ⟨kk, rfl⟩ := Int.eq_ofNat_of_zero_le k2
      obtain ⟨q, t, hq, ht, q1, t1, t2⟩ := sec_nat hs
      obtain ⟨qt, hqt⟩ : ∃ n, n = q * t := ⟨_, rfl⟩
      obtain ⟨F, hF⟩ : ∃ n, n = qt * t := ⟨_, rfl⟩
      obtain ⟨M, hM⟩ : ∃ n, n = 2 * q * kk := ⟨_, rfl⟩
      have bqt : qt ≤ 30 := by rw [hqt]; exact Nat.mul_le_mul q1 t2
      have bF : F ≤ 90 := by rw [hF]; exact Nat.mul_le_mul bqt t2
      have bM : M ≤ 60 := by rw [hM]; exact Nat.mul_le_mul (Nat.mul_le_mul_left 2 q1) (show kk ≤ 3 by omega)
      have k1' : IntKind.i64.wrap (p.T + 1) = (t : Int) := by rw [ht]; exact IntWalk.i64_in _ (by omega)
      have e1 : (q : Int) * (t : Int) = (qt : Int) := by rw [hqt]; simp
      have e2 : (qt : Int) * (t : Int) = (F : Int) := by rw [hF]; simp
      have e3 : 2 * (q : Int) * (kk : Int) = (M : Int) := by rw [hM]; simp
      rw [hq] at HS
      have HC4 : opnE p l.length (kk : Int) = if (l.length : Int) = F + 2 * M then 0 else 4 := by
        simp only [opnE, hs, hq, ht, e1, e2, e3]
        simp [k2, k3]
      have ht1 : (p.T + 1).toNat = t := by omega
      have hq1 : (secI p).toNat = q := by omega
      by_cases hl : (l.length : Int) = F + 2 * M
      · rw [if_pos hl] at HC4
        have HEM : Hid (opnM p l kk = chk t (chk t (l.take F) qt) q) := Lib.hid (by simp only [opnM, HC4, ht1, hq1, if_true]; rw [← hqt, ← hF])
        have HEA : Hid (opnA p l kk = chk kk (prsI ((l.drop F).take M) (q * kk)) q) := Lib.hid (by simp only [opnA, HC4, ht1, hq1, if_true, Int.toNat_natCast]; rw [← hqt, ← hF, ← hM])
        have HEB : Hid (opnB p l kk = chk kk (prsI (l.drop (F + M)) (q * kk)) q) := Lib.hid (by simp only [opnB, HC4, ht1, hq1, if_true, Int.toNat_natCast]; rw [← hqt, ← hF, ← hM])
        have HE0 := Lib.hid HC4
        have hll : l.length = F + 2 * M := by omega
        have hMq : M = (q * kk) * 2 := by rw [hM, Nat.mul_assoc, Nat.mul_comm]
        have hqk : q * kk ≤ 30 := Nat.mul_le_mul q1 (show kk ≤ 3 by omega)
        have hd0 : l.drop F = [] → l.length ≤ F := fun h => by have := congrArg List.length h; simp at this; omega
        by_cases hz : l.length = 0
        · obtain rfl : F = 0 := by omega
          obtain rfl : M = 0 := by omega
          have hl0 : l = [] := List.eq_nil_of_length_eq_zero hz
          have HS1 : Hid (Sl encU X w (.slice A 0 c) (l.take 0)) := Lib.hid (Sl.empty _ _ _ _ _ hcm)
          clear hd0
          by_cases hc0 : c = 0
          · subst hc0
            have e2' : (qt : Int) * (t : Int) = 0 := e2
            have e3' : 2 * (q : Int) * (kk : Int) = 0 := e3
            clear e2 e3 bF bM
            have HS2 : Hid (Sl encU X w (.slice A 0 0) ((l.drop 0).take 0)) := Lib.hid (by rw [hl0]; exact Sl.empty _ _ _ _ _ (by omega))
            have HS3 : Hid (Sl encU X w (.slice A 0 0) (l.drop (0 + 0))) := Lib.hid (by rw [hl0]; exact Sl.empty _ _ _ _ _ (by omega))
            have H1 := Lib.hid (fun (w' : World) (hw : w.grownBy w' none) => cutU_any _ (l.take 0) t qt X (fun g => w.heap.size ≤ g) w' (HS1.out.kept hw) t1 (by rw [List.length_take, ← hF]; simp) (by rw [List.length_take]; omega) (fun g h => Nat.le_trans hw.size h) (fun _ _ _ h => h))
            have H2 := Lib.hid (fun (v : Value) (w' : World) (hw : w.grownBy w' none) (hv : Sl (encW encU) (fun g => w.heap.size ≤ g) w' v (chk t (l.take 0) qt)) => cutR_any v _ t q _ (fun g => w.heap.size ≤ g) w' hv t1 (by rw [chk_length, hqt]) (by rw [chk_length]; omega) (fun g h => Nat.le_trans hw.size h) (fun _ _ _ h => h))
            have H3 := Lib.hid (fun (w' : World) (hw : w.grownBy w' none) => paired_any _ ((l.drop 0).take 0) (q * kk) X w' (HS2.out.kept hw) (by rw [List.length_take, ← hMq]; simp) (by rw [List.length_take, List.length_drop]; omega))
            have H4 := Lib.hid (fun (w' : World) (hw : w.grownBy w' none) => paired_any _ (l.drop (0 + 0)) (q * kk) X w' (HS3.out.kept hw) (by rw [List.length_drop, ← hMq]; omega) (by rw [List.length_drop]; omega))
            have H5 := Lib.hid (fun (v : Value) (ps : List (Int × Int)) (w' : World) (hw : w.grownBy w' none) (Z : Nat → Prop) (hv : Sl encP Z w' v ps) (hps : ps.length = q * kk) => lists_any v ps q kk Z (fun g => w.heap.size ≤ g) w' hv hps (by omega) (by omega) (fun g h => Nat.le_trans hw.size h))
            have hd : ((l.length : Int) != 0) = false := by simpa using hl
            have i1 : (0 : Int) ≤ (l.length : Int) := by omega
            have i2 : (0 : Int) + (0 : Int) ≤ (l.length : Int) := by omega
            have i3 : (l.length : Int) ≤ ((0 : Nat) : Int) := by omega
            have i4 : (0 : Int) + 2 * (0 : Int) ≤ ((0 : Nat) : Int) := by omega
            have HMM := Lib.hid hMq
            clear hs hl hq ht hqt hF hM HC4 ht1 hq1 hll hMq hz hlc
            go_enter Tryz.func16, Tryz.ntmps16
            go_wp2_with fail
            refine (HC.out _).mono ?_
            rintro e w1 ⟨rfl, hg⟩
            have HG1 := hidTrans hg HG0
            have HB1 := bkGrown hg HB0
            have hp1 := HB1.out.prule
            have hs1 := HB1.out.lt
            clear hg hp0
            go_wp2_with fail
            have HG4 : Hid (w.grownBy w1.drew none) := Lib.hid (grownBy_drewN HG1.out 1)
            have HB4 : Hid (Bk w1.drew w.heap.size 24 p.cells) := Lib.hid (HB1.out.drewN 1)
            go_region_held3 (fun w' => ∀ o, w'.cell? ⟨w.heap.size, o, none⟩ = (#[.int .u64 p.P, .int .u64 p.Q, .int .u64 p.G, .int .u64 p.H, .int .i64 p.Nodes, .int .i64 p.N, .int .i64 p.T, .int .i64 p.K, .int .i64 p.D, .int .i64 p.R, .int .i64 p.M, .int .i64 p.X] : Array Value)[o]?) (first | assumption | exact rule_alloc (by assumption) (by assumption) _ | go_keep) (first
              | (go_at_call 25; (with_reducible refine (HS.out _).mono ?_); rintro e' w' ⟨rfl, hg⟩; have HGx := hidTrans hg (by assumption); have HBx := bkGrown hg (by assumption); have hpx := HBx.out.prule; have hsx := HBx.out.lt; clear hg))
            go_wp2_with fail
            refine (H1.out _ HGx.out).mono ?_
            rintro e w3 ⟨v3, rfl, hs3, hg3⟩
            have HG3 := Lib.hid (HGx.out.trans hg3)
            have HV3 := Lib.hid hs3
            clear hs3 hg3
            go_wp2_with fail
            refine (H2.out _ _ HG3.out HV3.out).mono ?_
            rintro e w4 ⟨v4, rfl, hs4, hg4⟩
            have HG4 := Lib.hid (HG3.out.trans hg4)
            have HV4 := Lib.hid hs4
            clear hs4 hg4 HV3
            go_wp2_with fail
            refine (H3.out _ HG4.out).mono ?_
            rintro e w5 ⟨v5, rfl, hs5, hg5⟩
            have HG5 := Lib.hid (HG4.out.trans hg5)
            have HV5 := Lib.hid hs5
            have HV4' := Lib.hid (HV4.out.kept hg5)
            clear hs5 hg5 HV4
            go_wp2_with fail
            refine (H5.out _ _ _ HG5.out _ HV5.out (prsI_length _ _)).mono ?_
            rintro e w6 ⟨v6, rfl, hs6, hg6⟩
            have HG6 := Lib.hid (HG5.out.trans hg6)
            have HV6 := Lib.hid hs6
            have HV4 := Lib.hid (HV4'.out.kept hg6)
            clear hs6 hg6 HV4' HV5
            go_wp2_with fail
            refine (H4.out _ HG6.out).mono ?_
            rintro e w7 ⟨v7, rfl, hs7, hg7⟩
            have HG7 := Lib.hid (HG6.out.trans hg7)
            have HV7 := Lib.hid hs7
            have HV4' := Lib.hid (HV4.out.kept hg7)
            have HV6' := Lib.hid (HV6.out.kept hg7)
            clear hs7 hg7 HV4 HV6
            go_wp2_with fail
            refine (H5.out _ _ _ HG7.out _ HV7.out (prsI_length _ _)).mono ?_
            rintro e w8 ⟨v8, rfl, hs8, hg8⟩
            have HG8 := Lib.hid (HG7.out.trans hg8)
            have HV8 := Lib.hid hs8
            have HV4 := Lib.hid (HV4'.out.kept hg8)
            have HV6 := Lib.hid (HV6'.out.kept hg8)
            clear hs8 hg8 HV4' HV6' HV7
            go_wp2
            refine bodyPost_ret (v := .tuple #[v4, v6, v8, .int .i64 0]) (by simp [results, Tryz.results16, go_sem]) rfl ?_
            rw [HE0.out, HEM.out, HEA.out, HEB.out]
            exact ⟨_, _, _, rfl, HV4.out, HV6.out, HV8.out, HG8.out⟩
          · have x0 : ¬ c = 0 := hc0
            have e2' : (qt : Int) * (t : Int) = 0 := e2
            have e3' : 2 * (q : Int) * (kk : Int) = 0 := e3
            clear e2 e3 bF bM
            have HS2 : Hid (Sl encU X w (.slice A 0 c) ((l.drop 0).take 0)) := Lib.hid (by rw [hl0]; exact Sl.empty _ _ _ _ _ hcm)
            have HS3 : Hid (Sl encU X w (.slice A 0 c) (l.drop (0 + 0))) := Lib.hid (by rw [hl0]; exact Sl.empty _ _ _ _ _ hcm)
            have H1 := Lib.hid (fun (w' : World) (hw : w.grownBy w' none) => cutU_any _ (l.take 0) t qt X (fun g => w.heap.size ≤ g) w' (HS1.out.kept hw) t1 (by rw [List.length_take, ← hF]; simp) (by rw [List.length_take]; omega) (fun g h => Nat.le_trans hw.size h) (fun _ _ _ h => h))
            have H2 := Lib.hid (fun (v : Value) (w' : World) (hw : w.grownBy w' none) (hv : Sl (encW encU) (fun g => w.heap.size ≤ g) w' v (chk t (l.take 0) qt)) => cutR_any v _ t q _ (fun g => w.heap.size ≤ g) w' hv t1 (by rw [chk_length, hqt]) (by rw [chk_length]; omega) (fun g h => Nat.le_trans hw.size h) (fun _ _ _ h => h))
            have H3 := Lib.hid (fun (w' : World) (hw : w.grownBy w' none) => paired_any _ ((l.drop 0).take 0) (q * kk) X w' (HS2.out.kept hw) (by rw [List.length_take, ← hMq]; simp) (by rw [List.length_take, List.length_drop]; omega))
            have H4 := Lib.hid (fun (w' : World) (hw : w.grownBy w' none) => paired_any _ (l.drop (0 + 0)) (q * kk) X w' (HS3.out.kept hw) (by rw [List.length_drop, ← hMq]; omega) (by rw [List.length_drop]; omega))
            have H5 := Lib.hid (fun (v : Value) (ps : List (Int × Int)) (w' : World) (hw : w.grownBy w' none) (Z : Nat → Prop) (hv : Sl encP Z w' v ps) (hps : ps.length = q * kk) => lists_any v ps q kk Z (fun g => w.heap.size ≤ g) w' hv hps (by omega) (by omega) (fun g h => Nat.le_trans hw.size h))
            have hd : ((l.length : Int) != 0) = false := by simpa using hl
            have i1 : (0 : Int) ≤ (l.length : Int) := by omega
            have i2 : (0 : Int) + (0 : Int) ≤ (l.length : Int) := by omega
            have i3 : (l.length : Int) ≤ (c : Int) := by omega
            have i4 : (0 : Int) + 2 * (0 : Int) ≤ (c : Int) := by omega
            have HMM := Lib.hid hMq
            clear hs hl hq ht hqt hF hM HC4 ht1 hq1 hll hMq hz hlc
            go_enter Tryz.func16, Tryz.ntmps16
            go_wp2_with fail
            refine (HC.out _).mono ?_
            rintro e w1 ⟨rfl, hg⟩
            have HG1 := hidTrans hg HG0
            have HB1 := bkGrown hg HB0
            have hp1 := HB1.out.prule
            have hs1 := HB1.out.lt
            clear hg hp0
            go_wp2_with fail
            have HG4 : Hid (w.grownBy w1.drew none) := Lib.hid (grownBy_drewN HG1.out 1)
            have HB4 : Hid (Bk w1.drew w.heap.size 24 p.cells) := Lib.hid (HB1.out.drewN 1)
            go_region_held3 (fun w' => ∀ o, w'.cell? ⟨w.heap.size, o, none⟩ = (#[.int .u64 p.P, .int .u64 p.Q, .int .u64 p.G, .int .u64 p.H, .int .i64 p.Nodes, .int .i64 p.N, .int .i64 p.T, .int .i64 p.K, .int .i64 p.D, .int .i64 p.R, .int .i64 p.M, .int .i64 p.X] : Array Value)[o]?) (first | assumption | exact rule_alloc (by assumption) (by assumption) _ | go_keep) (first
              | (go_at_call 25; (with_reducible refine (HS.out _).mono ?_); rintro e' w' ⟨rfl, hg⟩; have HGx := hidTrans hg (by assumption); have HBx := bkGrown hg (by assumption); have hpx := HBx.out.prule; have hsx := HBx.out.lt; clear hg))
            go_wp2_with fail
            refine (H1.out _ HGx.out).mono ?_
            rintro e w3 ⟨v3, rfl, hs3, hg3⟩
            have HG3 := Lib.hid (HGx.out.trans hg3)
            have HV3 := Lib.hid hs3
            clear hs3 hg3
            go_wp2_with fail
            refine (H2.out _ _ HG3.out HV3.out).mono ?_
            rintro e w4 ⟨v4, rfl, hs4, hg4⟩
            have HG4 := Lib.hid (HG3.out.trans hg4)
            have HV4 := Lib.hid hs4
            clear hs4 hg4 HV3
            go_wp2_with fail
            refine (H3.out _ HG4.out).mono ?_
            rintro e w5 ⟨v5, rfl, hs5, hg5⟩
            have HG5 := Lib.hid (HG4.out.trans hg5)
            have HV5 := Lib.hid hs5
            have HV4' := Lib.hid (HV4.out.kept hg5)
            clear hs5 hg5 HV4
            go_wp2_with fail
            refine (H5.out _ _ _ HG5.out _ HV5.out (prsI_length _ _)).mono ?_
            rintro e w6 ⟨v6, rfl, hs6, hg6⟩
            have HG6 := Lib.hid (HG5.out.trans hg6)
            have HV6 := Lib.hid hs6
            have HV4 := Lib.hid (HV4'.out.kept hg6)
            clear hs6 hg6 HV4' HV5
            go_wp2_with fail
            refine (H4.out _ HG6.out).mono ?_
            rintro e w7 ⟨v7, rfl, hs7, hg7⟩
            have HG7 := Lib.hid (HG6.out.trans hg7)
            have HV7 := Lib.hid hs7
            have HV4' := Lib.hid (HV4.out.kept hg7)
            have HV6' := Lib.hid (HV6.out.kept hg7)
            clear hs7 hg7 HV4 HV6
            go_wp2_with fail
            refine (H5.out _ _ _ HG7.out _ HV7.out (prsI_length _ _)).mono ?_
            rintro e w8 ⟨v8, rfl, hs8, hg8⟩
            have HG8 := Lib.hid (HG7.out.trans hg8)
            have HV8 := Lib.hid hs8
            have HV4 := Lib.hid (HV4'.out.kept hg8)
            have HV6 := Lib.hid (HV6'.out.kept hg8)
            clear hs8 hg8 HV4' HV6' HV7
            go_wp2
            refine bodyPost_ret (v := .tuple #[v4, v6, v8, .int .i64 0]) (by simp [results, Tryz.results16, go_sem]) rfl ?_
            rw [HE0.out, HEM.out, HEA.out, HEB.out]
            exact ⟨_, _, _, rfl, HV4.out, HV6.out, HV8.out, HG8.out⟩
        · obtain ⟨ga, oa, eA, _, _⟩ := H.out.addr (by omega)
          subst eA
          have HS1 : Hid (Sl encU X w (.slice (some ⟨ga, oa, none⟩) F c) (l.take F)) := Lib.hid (H.out.take F (by omega))
          clear hd0
          by_cases hcF : F = c
          · obtain rfl : M = 0 := by omega
            subst hcF
            have e3' : 2 * (q : Int) * (kk : Int) = 0 := e3
            clear e3 bM
            have HS2 : Hid (Sl encU X w (.slice (some ⟨ga, oa, none⟩) 0 0) ((l.drop F).take 0)) := Lib.hid (by rw [List.take_zero]; exact Sl.empty _ _ _ _ _ (by omega))
            have HS3 : Hid (Sl encU X w (.slice (some ⟨ga, oa, none⟩) (l.length - F) 0) (l.drop (F + 0))) := Lib.hid (by rw [List.drop_eq_nil_of_le (by omega), show l.length - F = 0 by omega]; exact Sl.empty _ _ _ _ _ (by omega))
            have H1 := Lib.hid (fun (w' : World) (hw : w.grownBy w' none) => cutU_any _ (l.take F) t qt X (fun g => w.heap.size ≤ g) w' (HS1.out.kept hw) t1 (by rw [List.length_take, ← hF]; omega) (by rw [List.length_take]; omega) (fun g h => Nat.le_trans hw.size h) (fun _ _ _ h => h))
            have H2 := Lib.hid (fun (v : Value) (w' : World) (hw : w.grownBy w' none) (hv : Sl (encW encU) (fun g => w.heap.size ≤ g) w' v (chk t (l.take F) qt)) => cutR_any v _ t q _ (fun g => w.heap.size ≤ g) w' hv t1 (by rw [chk_length, hqt]) (by rw [chk_length]; omega) (fun g h => Nat.le_trans hw.size h) (fun _ _ _ h => h))
            have H3 := Lib.hid (fun (w' : World) (hw : w.grownBy w' none) => paired_any _ ((l.drop F).take 0) (q * kk) X w' (HS2.out.kept hw) (by rw [List.length_take, ← hMq]; simp) (by rw [List.length_take, List.length_drop]; omega))
            have H4 := Lib.hid (fun (w' : World) (hw : w.grownBy w' none) => paired_any _ (l.drop (F + 0)) (q * kk) X w' (HS3.out.kept hw) (by rw [List.length_drop, ← hMq]; omega) (by rw [List.length_drop]; omega))
            have H5 := Lib.hid (fun (v : Value) (ps : List (Int × Int)) (w' : World) (hw : w.grownBy w' none) (Z : Nat → Prop) (hv : Sl encP Z w' v ps) (hps : ps.length = q * kk) => lists_any v ps q kk Z (fun g => w.heap.size ≤ g) w' hv hps (by omega) (by omega) (fun g h => Nat.le_trans hw.size h))
            have hd : ((l.length : Int) != (F : Int)) = false := by simpa using hl
            have i1 : (F : Int) ≤ (l.length : Int) := by omega
            have i2 : (F : Int) + (0 : Int) ≤ (l.length : Int) := by omega
            have i3 : (l.length : Int) ≤ (F : Int) := by omega
            have i4 : (F : Int) + 2 * (0 : Int) ≤ (F : Int) := by omega
            have HMM := Lib.hid hMq
            clear hs hl hq ht hqt hF hM HC4 ht1 hq1 hll hMq hz hlc
            go_enter Tryz.func16, Tryz.ntmps16
            go_wp2_with fail
            refine (HC.out _).mono ?_
            rintro e w1 ⟨rfl, hg⟩
            have HG1 := hidTrans hg HG0
            have HB1 := bkGrown hg HB0
            have hp1 := HB1.out.prule
            have hs1 := HB1.out.lt
            clear hg hp0
            go_wp2_with fail
            have HG4 : Hid (w.grownBy w1.drew none) := Lib.hid (grownBy_drewN HG1.out 1)
            have HB4 : Hid (Bk w1.drew w.heap.size 24 p.cells) := Lib.hid (HB1.out.drewN 1)
            go_region_held3 (fun w' => ∀ o, w'.cell? ⟨w.heap.size, o, none⟩ = (#[.int .u64 p.P, .int .u64 p.Q, .int .u64 p.G, .int .u64 p.H, .int .i64 p.Nodes, .int .i64 p.N, .int .i64 p.T, .int .i64 p.K, .int .i64 p.D, .int .i64 p.R, .int .i64 p.M, .int .i64 p.X] : Array Value)[o]?) (first | assumption | exact rule_alloc (by assumption) (by assumption) _ | go_keep) (first
              | (go_at_call 25; (with_reducible refine (HS.out _).mono ?_); rintro e' w' ⟨rfl, hg⟩; have HGx := hidTrans hg (by assumption); have HBx := bkGrown hg (by assumption); have hpx := HBx.out.prule; have hsx := HBx.out.lt; clear hg))
            go_wp2_with fail
            refine (H1.out _ HGx.out).mono ?_
            rintro e w3 ⟨v3, rfl, hs3, hg3⟩
            have HG3 := Lib.hid (HGx.out.trans hg3)
            have HV3 := Lib.hid hs3
            clear hs3 hg3
            go_wp2_with fail
            refine (H2.out _ _ HG3.out HV3.out).mono ?_
            rintro e w4 ⟨v4, rfl, hs4, hg4⟩
            have HG4 := Lib.hid (HG3.out.trans hg4)
            have HV4 := Lib.hid hs4
            clear hs4 hg4 HV3
            go_wp2_with fail
            refine (H3.out _ HG4.out).mono ?_
            rintro e w5 ⟨v5, rfl, hs5, hg5⟩
            have HG5 := Lib.hid (HG4.out.trans hg5)
            have HV5 := Lib.hid hs5
            have HV4' := Lib.hid (HV4.out.kept hg5)
            clear hs5 hg5 HV4
            go_wp2_with fail
            refine (H5.out _ _ _ HG5.out _ HV5.out (prsI_length _ _)).mono ?_
            rintro e w6 ⟨v6, rfl, hs6, hg6⟩
            have HG6 := Lib.hid (HG5.out.trans hg6)
            have HV6 := Lib.hid hs6
            have HV4 := Lib.hid (HV4'.out.kept hg6)
            clear hs6 hg6 HV4' HV5
            go_wp2_with fail
            refine (H4.out _ HG6.out).mono ?_
            rintro e w7 ⟨v7, rfl, hs7, hg7⟩
            have HG7 := Lib.hid (HG6.out.trans hg7)
            have HV7 := Lib.hid hs7
            have HV4' := Lib.hid (HV4.out.kept hg7)
            have HV6' := Lib.hid (HV6.out.kept hg7)
            clear hs7 hg7 HV4 HV6
            go_wp2_with fail
            refine (H5.out _ _ _ HG7.out _ HV7.out (prsI_length _ _)).mono ?_
            rintro e w8 ⟨v8, rfl, hs8, hg8⟩
            have HG8 := Lib.hid (HG7.out.trans hg8)
            have HV8 := Lib.hid hs8
            have HV4 := Lib.hid (HV4'.out.kept hg8)
            have HV6 := Lib.hid (HV6'.out.kept hg8)
            clear hs8 hg8 HV4' HV6' HV7
            go_wp2
            refine bodyPost_ret (v := .tuple #[v4, v6, v8, .int .i64 0]) (by simp [results, Tryz.results16, go_sem]) rfl ?_
            rw [HE0.out, HEM.out, HEA.out, HEB.out]
            exact ⟨_, _, _, rfl, HV4.out, HV6.out, HV8.out, HG8.out⟩
          · have hcF' : ¬ c = F := fun e => hcF e.symm
            have x1 : ¬ c = F := hcF'
            have x2 : ¬ c = F + M := by omega
            clear hcF
            have HS2 : Hid (Sl encU X w (.slice (some ⟨ga, oa + F, none⟩) M (c - F)) ((l.drop F).take M)) := Lib.hid (by
              have := (H.out.drop F (by omega)).take M (by rw [List.length_drop]; omega)
              rwa [show F * encU.size = F from Nat.mul_one F] at this)
            have HS3 : Hid (Sl encU X w (.slice (some ⟨ga, oa + (F + M), none⟩) (l.length - (F + M)) (c - (F + M))) (l.drop (F + M))) := Lib.hid (by
              have := H.out.drop (F + M) (by omega)
              rwa [show (F + M) * encU.size = F + M from Nat.mul_one (F + M)] at this)
            have H1 := Lib.hid (fun (w' : World) (hw : w.grownBy w' none) => cutU_any _ (l.take F) t qt X (fun g => w.heap.size ≤ g) w' (HS1.out.kept hw) t1 (by rw [List.length_take, ← hF]; omega) (by rw [List.length_take]; omega) (fun g h => Nat.le_trans hw.size h) (fun _ _ _ h => h))
            have H2 := Lib.hid (fun (v : Value) (w' : World) (hw : w.grownBy w' none) (hv : Sl (encW encU) (fun g => w.heap.size ≤ g) w' v (chk t (l.take F) qt)) => cutR_any v _ t q _ (fun g => w.heap.size ≤ g) w' hv t1 (by rw [chk_length, hqt]) (by rw [chk_length]; omega) (fun g h => Nat.le_trans hw.size h) (fun _ _ _ h => h))
            have H3 := Lib.hid (fun (w' : World) (hw : w.grownBy w' none) => paired_any _ ((l.drop F).take M) (q * kk) X w' (HS2.out.kept hw) (by rw [List.length_take, List.length_drop, ← hMq]; omega) (by rw [List.length_take, List.length_drop]; omega))
            have H4 := Lib.hid (fun (w' : World) (hw : w.grownBy w' none) => paired_any _ (l.drop (F + M)) (q * kk) X w' (HS3.out.kept hw) (by rw [List.length_drop, ← hMq]; omega) (by rw [List.length_drop]; omega))
            have H5 := Lib.hid (fun (v : Value) (ps : List (Int × Int)) (w' : World) (hw : w.grownBy w' none) (Z : Nat → Prop) (hv : Sl encP Z w' v ps) (hps : ps.length = q * kk) => lists_any v ps q kk Z (fun g => w.heap.size ≤ g) w' hv hps (by omega) (by omega) (fun g h => Nat.le_trans hw.size h))
            have hd : ((l.length : Int) != (F : Int) + 2 * (M : Int)) = false := by simpa using hl
            have i1 : (F : Int) ≤ (l.length : Int) := by omega
            have i2 : (F : Int) + (M : Int) ≤ (l.length : Int) := by omega
            have i3 : (l.length : Int) ≤ (c : Int) := by omega
            have i4 : (F : Int) + 2 * (M : Int) ≤ (c : Int) := by omega
            have HMM := Lib.hid hMq
            clear hs hl hq ht hqt hF hM HC4 ht1 hq1 hll hMq hz hlc
            go_enter Tryz.func16, Tryz.ntmps16
            go_wp2_with fail
            refine (HC.out _).mono ?_
            rintro e w1 ⟨rfl, hg⟩
            have HG1 := hidTrans hg HG0
            have HB1 := bkGrown hg HB0
            have hp1 := HB1.out.prule
            have hs1 := HB1.out.lt
            clear hg hp0
            go_wp2_with fail
            have HG4 : Hid (w.grownBy w1.drew none) := Lib.hid (grownBy_drewN HG1.out 1)
            have HB4 : Hid (Bk w1.drew w.heap.size 24 p.cells) := Lib.hid (HB1.out.drewN 1)
            go_region_held3 (fun w' => ∀ o, w'.cell? ⟨w.heap.size, o, none⟩ = (#[.int .u64 p.P, .int .u64 p.Q, .int .u64 p.G, .int .u64 p.H, .int .i64 p.Nodes, .int .i64 p.N, .int .i64 p.T, .int .i64 p.K, .int .i64 p.D, .int .i64 p.R, .int .i64 p.M, .int .i64 p.X] : Array Value)[o]?) (first | assumption | exact rule_alloc (by assumption) (by assumption) _ | go_keep) (first
              | (go_at_call 25; (with_reducible refine (HS.out _).mono ?_); rintro e' w' ⟨rfl, hg⟩; have HGx := hidTrans hg (by assumption); have HBx := bkGrown hg (by assumption); have hpx := HBx.out.prule; have hsx := HBx.out.lt; clear hg))
            go_wp2_with fail
            refine (H1.out _ HGx.out).mono ?_
            rintro e w3 ⟨v3, rfl, hs3, hg3⟩
            have HG3 := Lib.hid (HGx.out.trans hg3)
            have HV3 := Lib.hid hs3
            clear hs3 hg3
            go_wp2_with fail
            refine (H2.out _ _ HG3.out HV3.out).mono ?_
            rintro e w4 ⟨v4, rfl, hs4, hg4⟩
            have HG4 := Lib.hid (HG3.out.trans hg4)
            have HV4 := Lib.hid hs4
            clear hs4 hg4 HV3
            go_wp2_with fail
            refine (H3.out _ HG4.out).mono ?_
            rintro e w5 ⟨v5, rfl, hs5, hg5⟩
            have HG5 := Lib.hid (HG4.out.trans hg5)
            have HV5 := Lib.hid hs5
            have HV4' := Lib.hid (HV4.out.kept hg5)
            clear hs5 hg5 HV4
            go_wp2_with fail
            refine (H5.out _ _ _ HG5.out _ HV5.out (prsI_length _ _)).mono ?_
            rintro e w6 ⟨v6, rfl, hs6, hg6⟩
            have HG6 := Lib.hid (HG5.out.trans hg6)
            have HV6 := Lib.hid hs6
            have HV4 := Lib.hid (HV4'.out.kept hg6)
            clear hs6 hg6 HV4' HV5
            go_wp2_with fail
            refine (H4.out _ HG6.out).mono ?_
            rintro e w7 ⟨v7, rfl, hs7, hg7⟩
            have HG7 := Lib.hid (HG6.out.trans hg7)
            have HV7 := Lib.hid hs7
            have HV4' := Lib.hid (HV4.out.kept hg7)
            have HV6' := Lib.hid (HV6.out.kept hg7)
            clear hs7 hg7 HV4 HV6
            go_wp2_with fail
            refine (H5.out _ _ _ HG7.out _ HV7.out (prsI_length _ _)).mono ?_
            rintro e w8 ⟨v8, rfl, hs8, hg8⟩
            have HG8 := Lib.hid (HG7.out.trans hg8)
            have HV8 := Lib.hid hs8
            have HV4 := Lib.hid (HV4'.out.kept hg8)
            have HV6 := Lib.hid (HV6'.out.kept hg8)
            clear hs8 hg8 HV4' HV6' HV7
            go_wp2
            refine bodyPost_ret (v := .tuple #[v4, v6, v8, .int .i64 0]) (by simp [results, Tryz.results16, go_sem]) rfl ?_
            rw [HE0.out, HEM.out, HEA.out, HEB.out]
            exact ⟨_, _, _, rfl, HV4.out, HV6.out, HV8.out, HG8.out⟩
      · have HC5 : opnE p l.length (kk : Int) = 4 := by rw [HC4, if_neg hl]
        have HEM : Hid (opnE p l.length (kk : Int) = 4 ∧ opnM p l kk = [] ∧ opnA p l kk = [] ∧ opnB p l kk = []) := Lib.hid (by simp [opnM, opnA, opnB, HC5])
        have hd : ((l.length : Int) != (F : Int) + 2 * (M : Int)) = true := by simpa using hl
        clear hs hl hq ht hqt hF hM HC4 HC5 ht1 hq1 hlc
        go_enter Tryz.func16, Tryz.ntmps16
        go_wp2_with fail
        refine (HC.out _).mono ?_
        rintro e w1 ⟨rfl, hg⟩
        have HG1 := hidTrans hg HG0
        have HB1 := bkGrown hg HB0
        have hp1 := HB1.out.prule
        have hs1 := HB1.out.lt
        clear hg hp0
        go_wp2_with fail
        have HG4 : Hid (w.grownBy w1.drew none) := Lib.hid (grownBy_drewN HG1.out 1)
        have HB4 : Hid (Bk w1.drew w.heap.size 24 p.cells) := Lib.hid (HB1.out.drewN 1)
        go_region_held3 (fun w' => ∀ o, w'.cell? ⟨w.heap.size, o, none⟩ = (#[.int .u64 p.P, .int .u64 p.Q, .int .u64 p.G, .int .u64 p.H, .int .i64 p.Nodes, .int .i64 p.N, .int .i64 p.T, .int .i64 p.K, .int .i64 p.D, .int .i64 p.R, .int .i64 p.M, .int .i64 p.X] : Array Value)[o]?) (first | assumption | exact rule_alloc (by assumption) (by assumption) _ | go_keep) (first
          | (go_at_call 25; (with_reducible refine (HS.out _).mono ?_); rintro e' w' ⟨rfl, hg⟩; have HGx := hidTrans hg (by assumption); have HBx := bkGrown hg (by assumption); have hpx := HBx.out.prule; have hsx := HBx.out.lt; clear hg))
        go_wp2
        refine bodyPost_ret (v := .tuple #[.slice none 0 0, .slice none 0 0, .slice none 0 0, .int .i64 4]) (by simp [results, Tryz.results16, go_sem]) rfl ?_
        rw [HEM.out.1, HEM.out.2.1, HEM.out.2.2.1, HEM.out.2.2.2]
        exact ⟨_, _, _, rfl, Sl.nil _ _ _, Sl.nil _ _ _, Sl.nil _ _ _, HGx.out⟩
    · have HE : Hid (opnE p l.length k = 1 ∧ opnM p l k = [] ∧ opnA p l k = [] ∧ opnB p l k = []) := Lib.hid (by simp only [opnM, opnA, opnB, opnE]; simp [hs, hk3])
      have hp1 : True := trivial
      clear hs
      by_cases hkn : 0 ≤ k
      · have hkx : 3 < k := by omega
        clear hk3
        go_enter Tryz.func16, Tryz.ntmps16
        go_wp2_with fail
        refine (HC.out _).mono ?_
        rintro e w1 ⟨rfl, hg⟩
        have HG := hidTrans hg HG0
        clear hg
        go_wp2
        refine bodyPost_ret (v := .tuple #[.slice none 0 0, .slice none 0 0, .slice none 0 0, .int .i64 1]) (by simp [results, Tryz.results16, go_sem]) rfl ?_
        rw [HE.out.1, HE.out.2.1, HE.out.2.2.1, HE.out.2.2.2]
        exact ⟨_, _, _, rfl, Sl.nil _ _ _, Sl.nil _ _ _, Sl.nil _ _ _, HG.out⟩
      · have hkx : k < 0 := by omega
        clear hk3 hkn
        go_enter Tryz.func16, Tryz.ntmps16
        go_wp2_with fail
        refine (HC.out _).mono ?_
        rintro e w1 ⟨rfl, hg⟩
        have HG := hidTrans hg HG0
        clear hg
        go_wp2
        refine bodyPost_ret (v := .tuple #[.slice none 0 0, .slice none 0 0, .slice none 0 0, .int .i64 1]) (by simp [results, Tryz.results16, go_sem]) rfl ?_
        rw [HE.out.1, HE.out.2.1, HE.out.2.2.1, HE.out.2.2.2]
        exact ⟨_, _, _, rfl, Sl.nil _ _ _, Sl.nil _ _ _, Sl.nil _ _ _, HG.out⟩
end Go.Proofs.YthicondcjeipfaaGreatDoor

namespace Go.Proofs.YthicondcjeipfaaGreatDoor
open Go Go.RowKit

theorem pairsOne_any (x : Int × Int) (w : World) (hx : U64 x.1 ∧ U64 x.2) :
    Calls Tryz.prog 53 #[.agg #[.int .u64 x.1, .int .u64 x.2]] w (Gives encU (fun g => w.heap.size ≤ g) w [x.1, x.2]) := by
  have HX := Lib.hid hx
  have HS : Hid (Sl encU (fun g => w.heap.size ≤ g) ((w.alloc (Obj.cells #[.int .u64 x.1, .int .u64 x.2] 38)).alloc (.cells #[.int .u64 x.1, .int .u64 x.2] 22)) (.slice (some ⟨w.heap.size + 1, 0, none⟩) 2 2) [x.1, x.2]) := Lib.hid (by
    have h := Bk.new (w.alloc (Obj.cells #[.int .u64 x.1, .int .u64 x.2] 38)) 22 #[.int .u64 x.1, .int .u64 x.2]
    rw [World.size_alloc] at h
    exact Sl.block (xs := [x.1, x.2]) h (by omega) [[.int .u64 x.1], [.int .u64 x.2]] rfl (fun i hi hi' => by
      match i, hi with
      | 0, _ => exact ⟨rfl, HX.out.1⟩
      | 1, _ => exact ⟨rfl, HX.out.2⟩) rfl (Nat.le_refl _) (by decide))
  obtain ⟨a, b⟩ := x
  clear hx
  go_enter Tryz.func53, Tryz.ntmps53
  go_wp2
  go_ret
  exact ⟨_, rfl, HS.out, grown_two⟩
set_option maxHeartbeats 1000000 in
theorem eachPairs_any (v : Value) (l : List (Int × Int)) (X : Nat → Prop) (w : World) (h : Sl encP X w v l) (hb : l.length ≤ 1000) :
    Calls Tryz.prog 52 #[v, .func (.func 53) #[] #[]] w (Gives (encS encU) (fun g => w.heap.size ≤ g) w (l.map fun x => [x.1, x.2])) := by
  have H := Lib.hid h
  have HB := Lib.hid hb
  obtain ⟨A, c, rfl, hc1, hc2⟩ := h.form
  clear h hb
  go_enter Tryz.func52, Tryz.ntmps52
  go_wp2_with fail
  go_loopg [5, 10] l.length (fun g s5 s10 wx => ∃ j : Nat, j + g = l.length ∧ s10 = .int .i64 j ∧ Hid (Acc (encS encU) w.heap.size 29 (fun g => w.heap.size ≤ g) wx s5 ((l.take j).map fun x => [x.1, x.2]) ∧ w.grownBy wx none))
  case atStart => exact ⟨0, by omega, rfl, Lib.hid ⟨Acc.nil _ _ _ _ _, World.grownBy.refl _ none⟩⟩
  case round =>
    obtain ⟨j, hj, rfl, HX⟩ := hrel
    cases gk with
    | zero =>
      obtain rfl : j = l.length := by omega
      have HR : Hid (Sl (encS encU) (fun g => w.heap.size ≤ g) wr u5 (l.map fun x => [x.1, x.2]) ∧ w.grownBy wr none) := Lib.hid ⟨by have := HX.out.1.sl; rwa [List.take_length] at this, HX.out.2⟩
      clear HX
      go_wp2
      go_ret
      exact ⟨_, rfl, HR.out.1, HR.out.2⟩
    | succ m =>
      have hjn : (j : Int) < (l.length : Int) := by omega
      have hjN : j < l.length := by omega
      obtain ⟨hacc, hg⟩ := HX.out
      obtain ⟨g, o, c', e, _, _, hc0, hc1', hu1, hu2⟩ := (H.out.kept hg).atP hjN
      injection e with e1 e2 e3
      subst e1 e3
      have HSN : Hid ((l.take (j + 1)).map (fun x => [x.1, x.2]) = (l.take j).map (fun x => [x.1, x.2]) ++ [[l[j].1, l[j].2]]) := Lib.hid (by rw [List.take_succ_eq_append_getElem hjN, List.map_append]; rfl)
      have HU := Lib.hid (And.intro hu1 hu2)
      have HAC := Lib.hid hacc
      have HG := Lib.hid hg
      have HLB : Hid ((((l.take j).map fun x => [x.1, x.2]).length + 1) * 24 ≤ 140737488355328) := Lib.hid (by have := HB.out; simp; omega)
      obtain ⟨y, hy⟩ : ∃ y, y = l[j] := ⟨_, rfl⟩
      rw [← hy] at HSN HU hc0 hc1'
      obtain ⟨wa, hwa⟩ : ∃ y2, y2 = wr.alloc (Obj.cells #[.int .u64 y.1, .int .u64 y.2] 38) := ⟨_, rfl⟩
      have HGA : Hid (wr.grownBy wa none) := Lib.hid (by rw [hwa]; exact World.grownBy_alloc _ _ none)
      have hbx : Bk wa wr.heap.size 38 #[.int .u64 y.1, .int .u64 y.2] := by rw [hwa]; exact Bk.new _ _ _
      have HC := Lib.hid (pairsOne_any y wa HU.out)
      obtain ⟨ya, yb⟩ := y
      simp only at hc0 hc1' HC HSN hwa hbx
      have d0 := hbx.cell 0
      have d1 := hbx.cell 1
      simp at d0 d1
      clear hacc hg HX hu1 hu2 e2 hy hbx
      generalize l.length = n at *
      go_wp2_with fail
      rw [← hwa]
      clear hwa
      refine HC.out.mono ?_
      rintro e w1 ⟨v1, rfl, hs1, hg1⟩
      obtain ⟨A1, c1, e1, _, _⟩ := hs1.form
      subst e1
      have HG1 : Hid (w.grownBy w1 none) := Lib.hid (HG.out.trans (HGA.out.trans hg1))
      have HAC1 := Lib.hid (HAC.out.kept (HGA.out.trans hg1))
      have HREP : Hid ((encS encU).rep (fun g => w.heap.size ≤ g ∧ some g ≠ u5.ownBlock) w1 [.slice A1 2 c1] [ya, yb]) := Lib.hid ⟨_, rfl, hs1.more fun g _ h => ⟨Nat.le_trans (HG.out.trans HGA.out).size h, fun e => by have h1 := (HAC.out.lt g e.symm).2; have h2 := HGA.out.size; omega⟩⟩
      clear hs1 hg1 d0 d1 hc0 hc1'
      go_wp2_with (at_builtin; refine wpList_pushG rfl (.tmp 14) (.tmp 18) rfl (E := encS encU) (y := [ya, yb]) el_nums HG1.out HAC1.out (fun _ h => h) HREP.out HLB.out rfl rfl ?_)
      intro v2 w2 hacc2 hg2 hgo
      have HFIN : Hid (Acc (encS encU) w.heap.size 29 (fun g => w.heap.size ≤ g) w2 v2 ((l.take (j + 1)).map fun x => [x.1, x.2]) ∧ w.grownBy w2 none) := Lib.hid ⟨by rw [HSN.out]; simpa using hacc2, hg2⟩
      clear hacc2 hg2 hgo
      go_wp2_with fail
      go_roundg m
      case measure => omega
      case rel => exact ⟨j + 1, by omega, by go_num, HFIN⟩
set_option maxHeartbeats 1000000 in
theorem flatU_any (v : Value) (ls : List (List Int)) (X : Nat → Prop) (w : World) (h : Sl (encS encU) X w v ls) (hb : ls.length ≤ 1000) (hb2 : ∀ x ∈ ls, x.length ≤ 1000) :
    Calls Tryz.prog 49 #[v] w (Gives encU (fun g => w.heap.size ≤ g) w ls.flatten) := by
  have H := Lib.hid h
  have HB2 := Lib.hid hb2
  have HB := Lib.hid hb
  obtain ⟨A, c, rfl, hc1, hc2⟩ := h.form
  have HLN : Hid (∀ j, (ls.take j).flatten.length ≤ j * 1000) := Lib.hid (fun j => by
    induction j with
    | zero => simp
    | succ j ih =>
      rcases Nat.lt_or_ge j ls.length with h | h
      · rw [List.take_succ_eq_append_getElem h, List.flatten_append, List.length_append]
        have h1 := hb2 _ (List.getElem_mem h)
        have h2 : [ls[j]].flatten.length = ls[j].length := by simp
        rw [h2, Nat.add_mul]
        exact Nat.add_le_add ih (by rw [Nat.one_mul]; exact h1)
      · rw [List.take_of_length_le (show ls.length ≤ j + 1 from Nat.le_succ_of_le h)]
        rw [List.take_of_length_le h] at ih
        exact Nat.le_trans ih (Nat.mul_le_mul_right _ (Nat.le_succ j)))
  clear h hb hb2
  go_enter Tryz.func49, Tryz.ntmps49
  go_wp2_with fail
  go_loopg [3, 8] ls.length (fun g s3 s8 wx => ∃ j : Nat, j + g = ls.length ∧ s8 = .int .i64 j ∧ Hid (Acc encU w.heap.size 22 (fun g => w.heap.size ≤ g) wx s3 (ls.take j).flatten ∧ w.grownBy wx none))
  case atStart => exact ⟨0, by omega, rfl, Lib.hid ⟨Acc.nil _ _ _ _ _, World.grownBy.refl _ none⟩⟩
  case round =>
    obtain ⟨j, hj, rfl, HX⟩ := hrel
    cases gk with
    | zero =>
      obtain rfl : j = ls.length := by omega
      have HR : Hid (Sl encU (fun g => w.heap.size ≤ g) wr u3 ls.flatten ∧ w.grownBy wr none) := Lib.hid ⟨by have := HX.out.1.sl; rwa [List.take_length] at this, HX.out.2⟩
      clear HX
      go_wp2
      go_ret
      exact ⟨_, rfl, HR.out.1, HR.out.2⟩
    | succ m =>
      have hjn : (j : Int) < (ls.length : Int) := by omega
      have hjN : j < ls.length := by omega
      obtain ⟨hacc, hg⟩ := HX.out
      obtain ⟨g, o, c', u, e, _, _, hcu, hu⟩ := (H.out.kept hg).atS hjN
      injection e with e1 e2 e3
      subst e1 e3
      have HSN : Hid ((ls.take (j + 1)).flatten = (ls.take j).flatten ++ ls[j]) := Lib.hid (by rw [List.take_succ_eq_append_getElem hjN, List.flatten_append]; simp)
      have HAC := Lib.hid hacc
      have HG := Lib.hid hg
      obtain ⟨A1, c1, e1, _, _⟩ := hu.form
      have HLB : Hid (((ls.take j).flatten.length + ls[j].length) * 8 ≤ 140737488355328) := Lib.hid (by have h1 := HLN.out j; have h2 := HB.out; have h3 := HB2.out _ (List.getElem_mem hjN); omega)
      have HSZ : Hid (w.heap.size ≤ wr.heap.size) := Lib.hid hg.size
      have HU := Lib.hid hu
      clear hacc hg HX hu e2
      obtain ⟨y, hy⟩ : ∃ y, y = ls[j] := ⟨_, rfl⟩
      rw [← hy] at e1 HSN HLB HU
      clear hy
      obtain ⟨ny, hny⟩ : ∃ y2, y2 = y.length := ⟨_, rfl⟩
      rw [← hny] at e1
      subst e1
      clear hny
      go_wp2_with (at_builtin; refine wpList_apps rfl (.tmp 12) (.tmp 13) rfl (E := encU) el_u64 HAC.out rfl rfl HU.out (fun _ _ h => h) HLB.out HSZ.out (fun _ h => Nat.le_trans HSZ.out h) ?_)
      intro v2 w2 hacc2 hg2 hm2
      have HFIN : Hid (Acc encU w.heap.size 22 (fun g => w.heap.size ≤ g) w2 v2 (ls.take (j + 1)).flatten ∧ w.grownBy w2 none) := Lib.hid ⟨by rw [HSN.out]; exact hacc2, grown_up HG.out hg2 (fun k e => (HAC.out.lt k e).1)⟩
      clear hacc2 hg2 hm2
      go_wp2_with fail
      go_roundg m
      case measure => omega
      case rel => exact ⟨j + 1, by omega, by go_num, HFIN⟩
theorem dpairs_any (v : Value) (l : List (Int × Int)) (X : Nat → Prop) (w : World) (h : Sl encP X w v l) (hb : l.length ≤ 1000) :
    Calls Tryz.prog 22 #[v] w (Gives encU (fun g => w.heap.size ≤ g) w (l.map fun x => [x.1, x.2]).flatten) := by
  have HE := Lib.hid (eachPairs_any v l X w h hb)
  have HF := Lib.hid (fun u Y w' (hs : Sl (encS encU) Y w' u (l.map fun x => [x.1, x.2])) => flatU_any u _ Y w' hs (by simpa using hb) (fun x hx => by obtain ⟨y, _, rfl⟩ := List.mem_map.1 hx; simp))
  obtain ⟨A, c, rfl, _, _⟩ := h.form
  clear h
  go_enter Tryz.func22, Tryz.ntmps22
  go_wp2_with fail
  refine HE.out.mono ?_
  rintro e w1 ⟨v1, rfl, hs1, hg1⟩
  have HG1 := Lib.hid hg1
  have HS1 := Lib.hid hs1
  clear hs1 hg1
  go_wp2_with fail
  refine (HF.out _ _ _ HS1.out).mono ?_
  rintro e w2 ⟨v2, rfl, hs2, hg2⟩
  have HR : Hid (Sl encU (fun g => w.heap.size ≤ g) w2 v2 (l.map fun x => [x.1, x.2]).flatten ∧ w.grownBy w2 none) := Lib.hid ⟨hs2.more fun g _ h => Nat.le_trans HG1.out.size h, HG1.out.trans hg2⟩
  clear hs2 hg2
  go_wp2
  go_ret
  exact ⟨_, rfl, HR.out⟩
end Go.Proofs.YthicondcjeipfaaGreatDoor

namespace Go.Proofs.YthicondcjeipfaaGreatDoor
open Go

section
variable {P : Program} {Q : Exit → Act → World → Prop} {a0 : Act} {w0 : World}
def upTo (k m : Nat) : Array Bool := Array.replicate k true ++ Array.replicate (m - k) false
theorem upTo_at {k m i : Nat} (hk : k ≤ m) (d : Bool) : (upTo k m).getD i d = if i < k then true else if i < m then false else d := by
  unfold upTo
  rw [Array.getD_eq_getD_getElem?, Array.getElem?_append]
  by_cases h1 : i < k
  · simp [h1]
  · by_cases h2 : i < m
    · simp [h1, h2, show i - k < m - k by omega]
    · simp [h1, h2, show ¬ i - k < m - k by omega]
theorem upTo_set {k m : Nat} (hk : k < m) : (upTo k m).setIfInBounds k true = upTo (k + 1) m := by
  refine Array.ext (by simp [upTo]; omega) fun i h1 h2 => ?_
  have e1 := upTo_at (k := k + 1) (m := m) (i := i) (by omega) false
  have e2 := upTo_at (k := k) (m := m) (i := i) (by omega) false
  have h3 : i < (upTo k m).size := by simpa using h1
  rw [Array.getElem_setIfInBounds h3]
  rw [Array.getD_eq_getD_getElem?, Array.getElem?_eq_getElem h2] at e1
  rw [Array.getD_eq_getD_getElem?, Array.getElem?_eq_getElem h3] at e2
  simp only [Option.getD_some] at e1 e2
  rw [e1]
  split
  · rename_i h
    subst h
    simp
  · rename_i h
    rw [e2]
    by_cases h4 : i < k
    · simp [h4, show i < k + 1 by omega]
    · simp [h4, show ¬ i < k + 1 by omega]
def seqmB (ops : Array Oper) (n sz : Nat) : Bool := Region.noSelect ops && decide (n ≤ ops.size) && topoB ops n && distB ops n sz
theorem wpList_monoR {l : List Oper} (n : Nat) (hB : seqmB l.toArray n a0.tmps.size = true)
    (h : MonoR P l.toArray n a0 w0 (fun Vs => ∀ w, w0.grownBy w none → FinN P l.toArray Q w Vs l a0) n [] l) : wpList P l.toArray Q l a0 w0 := by
  obtain ⟨hM', hn'⟩ := MonoN.cut (MonoR.up h)
  simp only [seqmB, Bool.and_eq_true, decide_eq_true_eq] at hB
  obtain ⟨⟨⟨hsel, hn⟩, htopo⟩, hdist⟩ := hB
  obtain ⟨Vs, hVl, hF, hO⟩ := Mono.out hM'
  simp only [List.reverse_nil, List.nil_append, List.length_nil, Nat.zero_add] at hF hO
  have htl : (l.take n).length = n := by simp; omega
  have hVn : Vs.length = n := hVl.trans htl
  have hsz : l.toArray.size = l.length := by simp
  have key : ∀ m k a w, k + m = n → MInv l.toArray n a0 w0 Vs (upTo k l.toArray.size) a w → wpList P l.toArray Q (l.drop k) a w := by
    intro m
    induction m with
    | zero =>
      intro k a w hk inv
      obtain rfl : k = n := by omega
      have hk : ∀ (q : Nat) (V : Pv) (o : Oper), Vs[q]? = some V → (l.take k)[q]? = some o → V.p (match o.dst with | some d => a.eval (.tmp d) | none => undef) w := by
        intro q V o hv ho
        have hqn : q < k := by have := (List.getElem?_eq_some_iff.1 hv).1; omega
        have h1 := inv.known q V (by rw [upTo_at hn]; simp [hqn]) hv
        have h2 : dstAt l.toArray q = o.dst := by
          have : l[q]? = some o := by rw [List.getElem?_take, if_pos hqn] at ho; exact ho
          simp [dstAt, this]
        rw [h2] at h1
        have h3 : (match o.dst with | some d => a.eval (.tmp d) | none => undef) = valOf o.dst a := by cases o.dst <;> rfl
        rw [h3]
        exact h1
      have hcut := FinN.cut (by rw [hVn]; omega) (hF w inv.grown)
      rw [hVn] at hcut
      have hfin := Fin'.all hVl hk hcut
      have hon : onto a ((l.take k).map (·.dst)) a0 = a := by
        refine act_ext (fun t => onto_at a t _ _ inv.tsize.symm ?_) ((onto_defers _ _ _).trans inv.defers.symm)
        by_cases ht : some t ∈ (l.take k).map (·.dst)
        · exact .inl ht
        · refine .inr (inv.rest t fun j hj _ e => ht ?_).symm
          have hjl : j < l.length := by omega
          have : l[j].dst = some t := by simpa [dstAt, hjl] using e
          exact List.mem_map.2 ⟨l[j], List.mem_iff_getElem?.2 ⟨j, by rw [List.getElem?_take, if_pos hj, List.getElem?_eq_getElem hjl]⟩, this⟩
      rw [hon] at hfin
      exact hfin
    | succ m ih =>
      intro k a w hk inv
      have hkn : k < n := by omega
      have hkl : k < l.length := by omega
      have ho : l.toArray[k]? = some l[k] := by simp [hkl]
      have hnext : (l.take n)[k]? = some l[k] := by rw [List.getElem?_take, if_pos hkn, List.getElem?_eq_getElem hkl]
      obtain ⟨V, js, hV, hchk, hask⟩ := hO k l[k] hnext
      simp only [Bool.and_eq_true] at hchk
      obtain ⟨hpair, hlook⟩ := hchk
      have hu : (upTo k l.toArray.size).getD k true = false := by rw [upTo_at (by omega)]; simp [hkl]
      have hed : ∀ e ∈ l[k].after, Region.binds .any e = true → (upTo k l.toArray.size).getD e.on false = true := fun e he hb => by
        have ht := list_all_range htopo hkn
        simp only [ho, Option.map_some, Option.getD_some] at ht
        have := Array.all_eq_true_iff_forall_mem.1 ht e he
        rw [upTo_at (by omega)]
        simp only [hb, Bool.not_true, Bool.false_or, decide_eq_true_eq] at this
        simp [this]
      have hi : k ∈ Region.ready .any l.toArray (upTo k l.toArray.size) := mem_ready.2 ⟨hu, _, ho, hed⟩
      have hdst : ∀ d, l[k].dst = some d → d < a.tmps.size := by
        intro d hd
        have := list_all_range hdist hkn
        have h2 : dstAt l.toArray k = some d := by simp only [dstAt, ho]; exact hd
        rw [h2] at this
        simp only [Bool.and_eq_true, decide_eq_true_eq] at this
        rw [inv.tsize]
        exact this.1
      have hjs : ∀ x : Nat × Tmp, x ∈ js → dstAt l.toArray x.1 = some x.2 ∧ (upTo k l.toArray.size).getD x.1 false = true ∧ x.1 < k := by
        intro x hx
        have := List.all_eq_true.1 hpair x hx
        simp only [Bool.and_eq_true, beq_iff_eq] at this
        obtain ⟨oj, hoj, e, he, hb, hon⟩ := Region.waitsFor_spec this.2
        have hoo : l[k] = oj := Option.some.inj (ho.symm.trans hoj)
        subst hoo
        have ht := list_all_range htopo hkn
        simp only [ho, Option.map_some, Option.getD_some] at ht
        have ht := Array.all_eq_true_iff_forall_mem.1 ht e he
        simp only [hb, Bool.not_true, Bool.false_or, decide_eq_true_eq] at ht
        exact ⟨this.1, by rw [← hon]; exact hed e he hb, by rw [← hon]; exact ht⟩
      have hA := hask w inv.grown
      have hW := Ask.all (b := a) (fun x hx => by
        obtain ⟨h1, h2, h3⟩ := hjs x hx
        have hxl : x.1 < Vs.length := by omega
        have h4 : Vs[x.1]? = some Vs[x.1] := List.getElem?_eq_getElem hxl
        have h5 := inv.known x.1 _ h2 h4
        rw [h1] at h5
        have : (Vs.take k).getD x.1 Pv.any = Vs[x.1] := by
          rw [List.getD_eq_getElem?_getD, List.getElem?_take, if_pos h3, h4]
          rfl
        rw [this]
        exact h5) hA
      have hop := told_op (Q := Q) (ops := l.toArray) (a0 := a0) (a := a) (Region.noSelect_spec hsel k l[k] · · ho) hdst ((onto_size _ _ _).trans inv.tsize.symm) (fun t ht => by
        refine onto_at a t _ _ inv.tsize.symm ?_
        have h1 : (l[k].looksAt l.toArray).all (fun t => js.any (·.2 == t) || keptB l.toArray n k t) = true := by
          simpa only [lookB, ho, Option.map_some, Option.getD_some] using hlook
        have h2 := List.all_eq_true.1 h1 t ht
        simp only [Bool.or_eq_true] at h2
        rcases h2 with h2 | h2
        · left
          obtain ⟨x, hx, hxt⟩ := List.any_eq_true.1 h2
          exact List.mem_map.2 ⟨x, hx, by rw [beq_iff_eq.1 hxt]⟩
        · right
          refine (inv.rest t fun j hj hD e => ?_).symm
          have h3 := list_all_range h2 hj
          simp only [Bool.or_eq_true, bne_iff_ne, ne_eq, beq_iff_eq] at h3
          rcases h3 with (h3 | h3) | h3
          · exact h3 e
          · obtain ⟨oj, hoj, e', he', hb', hon⟩ := Region.waitsFor_spec h3
            have := inv.head.closed j oj hoj hD e' he' hb'
            rw [hon, getD_both hu] at this
            cases this
          · subst h3
            rw [getD_both hu] at hD
            cases hD) ho (onto_defers _ _ _) hW
      have hstep : wpOp P l.toArray Q k (wpList P l.toArray Q (l.drop (k + 1))) a w := wpOp_mono (fun a' w' hk' => by
        obtain ⟨v, ha, hv, hg⟩ := hk'
        have := minv_step inv hdist hi hkn ho hV (by omega) ha hv hg
        rw [upTo_set (by omega)] at this
        exact ih (k + 1) a' w' (by omega) this) hop
      rw [List.drop_eq_getElem_cons hkl]
      unfold wpOp at hstep
      simp only [ho] at hstep
      exact hstep
  refine key n 0 a0 w0 (by omega) ⟨⟨by simp [upTo], fun j oj hj hD => by rw [upTo_at (by omega)] at hD; simp at hD, fun t _ ht => by rw [upTo_at (by omega)]; simp at ht; simp [ht]⟩, World.grownBy.refl w0 none, rfl, rfl, fun _ _ => rfl, fun j V hD => by rw [upTo_at (by omega)] at hD; simp at hD⟩
theorem wp_region_seqm {l : List Oper} {id : Nat} (n : Nat) (hB : seqmB l.toArray n a0.tmps.size = true)
    (h : MonoR P l.toArray n a0 w0 (fun Vs => ∀ w, w0.grownBy w none → FinN P l.toArray Q w Vs l a0) n [] l) : (Code.region id l.toArray false).wp P Q a0 w0 :=
  wp_region_lit (wpList_monoR n hB h)
end
end Go.Proofs.YthicondcjeipfaaGreatDoor
