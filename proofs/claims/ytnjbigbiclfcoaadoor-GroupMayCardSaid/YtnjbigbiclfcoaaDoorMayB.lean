/- group.May, walked: the asks as values, and the whole. -/
import Derived.Test.YtnjbigbiclfcoaaDoorMay
import Derived.Deep.LoopGhost
namespace Go.Proofs.YtnjbigbiclfcoaaDoor
open Go.RowKit

theorem cell_lt {w : World} {g o : Nat} {v : Value} (h : w.cell? ⟨g, o, none⟩ = some v) : g < w.heap.size := by
  rcases Nat.lt_or_ge g w.heap.size with hlt | hge
  · exact hlt
  · simp [World.cell?, Array.getElem?_eq_none hge] at h
theorem TabsAt.kept {w w' : World} (h : TabsAt w) (hg : w.grownBy w' none) : TabsAt w' :=
  ⟨fun j hj => by have := h.1 j hj; rw [World.cell?_of_block (w := w) (hg.block _ (cell_lt this) (by simp))]; exact this,
   fun j hj => by have := h.2 j hj; rw [World.cell?_of_block (w := w) (hg.block _ (cell_lt this) (by simp))]; exact this⟩
set_option maxHeartbeats 400000 in
theorem may_9 (p : Par) (g : Nat) (w : World) (hT : TabsAt w) (hb : Bk w g 24 p.cells) :
    Calls Tryd.prog 32 #[.pointer (some ⟨g, 0, none⟩)] w fun e w' => e = .returned (.bool (m9 p)) ∧ w.grownBy w' none := by
  have hc := hb.prule
  have HQ := prime_any p.Q w hT
  have HP := Lib.hid (fun k => prime_any p.P (w.drewN k) (hT.drewN k))
  clear hb hT
  cases hQ : primeB p.Q with
  | true =>
    rw [hQ] at HQ
    have HQ2 := Lib.hid HQ
    have HE : Hid (m9 p = primeB p.P) := Lib.hid (by simp [m9, hQ])
    clear hQ HQ
    go_enter Tryd.func32, Tryd.ntmps32
    go_wp2_with fail
    refine HQ2.out.mono ?_
    rintro e w' ⟨rfl, k, rfl⟩
    go_wp2_with fail
    refine (HP.out k).mono ?_
    rintro e w' ⟨rfl, k2, rfl⟩
    go_wp2
    go_ret
    exact ⟨ret_bool HE.out.symm, grownBy_drewN (World.grownBy.refl w none) _⟩
  | false =>
    rw [hQ] at HQ
    have HQ2 := Lib.hid HQ
    have HE : Hid (m9 p = false) := Lib.hid (by simp [m9, hQ])
    clear hQ HQ
    go_enter Tryd.func32, Tryd.ntmps32
    go_wp2_with fail
    refine HQ2.out.mono ?_
    rintro e w' ⟨rfl, k, rfl⟩
    go_wp2
    go_ret
    exact ⟨ret_bool HE.out.symm, grownBy_drewN (World.grownBy.refl w none) _⟩
theorem is_eq (p : Par) (x : Int) (b : Bool) (h : isB p x = b) (w : World) (hp : p.ok) (h1 : U64 x) :
    Calls Tryd.prog 15 #[p.v, .int .u64 x] w fun e' w' => e' = .returned (.bool b) ∧ w.grownBy w' none := h ▸ is_any p x w hp h1
set_option maxHeartbeats 400000 in
theorem may_10 (p : Par) (g : Nat) (w : World) (hp : p.ok) (hb : Bk w g 24 p.cells) :
    Calls Tryd.prog 34 #[.pointer (some ⟨g, 0, none⟩)] w fun e w' => e = .returned (.bool (m10 p)) ∧ w.grownBy w' none := by
  have hc := hb.prule
  have HB := Lib.hid hb
  by_cases h1 : p.G = 1
  · have h1' : (p.G != 1) = false := by simpa using h1
    have HE : Hid (m10 p = false) := Lib.hid (by simp [m10, h1])
    clear h1 hp hb
    go_enter Tryd.func34, Tryd.ntmps34
    go_wp2
    go_ret
    exact ⟨ret_bool HE.out.symm, World.grownBy.refl w none⟩
  · have h1' : (p.G != 1) = true := by simpa using h1
    cases hG : isB p p.G with
    | false =>
      have HI := Lib.hid (fun w => is_eq p p.G _ hG w hp hp.G)
      have HE : Hid (m10 p = false) := Lib.hid (by simp [m10, hG])
      clear h1 hp hb hG
      go_enter Tryd.func34, Tryd.ntmps34
      go_wp2_with fail
      refine (HI.out _).mono ?_
      rintro e w1 ⟨rfl, hg⟩
      have HG := Lib.hid hg
      clear hg
      go_wp2
      go_ret
      exact ⟨ret_bool HE.out.symm, HG.out⟩
    | true =>
      have HI := Lib.hid (fun w => is_eq p p.G _ hG w hp hp.G)
      by_cases h2 : p.H = 1
      · have h2' : (p.H != 1) = false := by simpa using h2
        have HE : Hid (m10 p = false) := Lib.hid (by simp [m10, h2])
        clear h1 h2 hp hb hG
        go_enter Tryd.func34, Tryd.ntmps34
        go_wp2_with fail
        refine (HI.out _).mono ?_
        rintro e w1 ⟨rfl, hg⟩
        have HG := Lib.hid hg
        have hc1 := (HB.out.grown hg (by simp)).prule
        clear hg
        go_wp2
        go_ret
        exact ⟨ret_bool HE.out.symm, HG.out⟩
      · have h2' : (p.H != 1) = true := by simpa using h2
        have HJ := Lib.hid (fun w => is_any p p.H w hp hp.H)
        have HE : Hid (m10 p = isB p p.H) := Lib.hid (by simp [m10, hG, h1, h2])
        clear h1 h2 hp hb hG
        go_enter Tryd.func34, Tryd.ntmps34
        go_wp2_with fail
        refine (HI.out _).mono ?_
        rintro e w1 ⟨rfl, hg⟩
        have HG := Lib.hid hg
        have hc1 := (HB.out.grown hg (by simp)).prule
        clear hg
        go_wp2_with fail
        refine (HJ.out _).mono ?_
        rintro e w2 ⟨rfl, hg⟩
        have HG2 := Lib.hid (HG.out.trans hg)
        clear hg
        go_wp2
        go_ret
        exact ⟨ret_bool HE.out.symm, HG2.out⟩
def ms (p : Par) : List Bool := [m1 p, m2 p, m3 p, m4 p, m5 p, m6 p, m7 p, m8 p, m9 p, m10 p]
def fvs (g : Nat) : List Value := [.func (.func 23) #[] #[.pointer (some ⟨g, 0, none⟩)], .func (.func 24) #[] #[.pointer (some ⟨g, 0, none⟩)], .func (.func 26) #[] #[.pointer (some ⟨g, 0, none⟩)], .func (.func 27) #[] #[.pointer (some ⟨g, 0, none⟩)], .func (.func 28) #[] #[.pointer (some ⟨g, 0, none⟩)], .func (.func 29) #[] #[.pointer (some ⟨g, 0, none⟩)], .func (.func 30) #[] #[.pointer (some ⟨g, 0, none⟩)], .func (.func 31) #[] #[.pointer (some ⟨g, 0, none⟩)], .func (.func 32) #[] #[.pointer (some ⟨g, 0, none⟩)], .func (.func 34) #[] #[.pointer (some ⟨g, 0, none⟩)]]

set_option maxHeartbeats 400000 in
theorem ask_1 (p : Par) (g : Nat) (w : World) (hp : p.ok) (_hT : TabsAt w) (hb : Bk w g 24 p.cells)  :
    Calls Tryd.prog 36 #[.func (.func 23) #[] #[.pointer (some ⟨g, 0, none⟩)]] w fun e w' => e = .returned (.bool (!m1 p)) ∧ w.grownBy w' none := by
  have HM := Lib.hid (may_1 p g w hp hb)
  clear hp _hT hb
  go_enter Tryd.func36, Tryd.ntmps36
  go_wp2_with fail
  refine HM.out.mono ?_
  rintro e w1 ⟨rfl, hg⟩
  have HG := Lib.hid hg
  clear hg
  go_wp2
  go_ret
  exact ⟨rfl, HG.out⟩
set_option maxHeartbeats 400000 in
theorem ask_2 (p : Par) (g : Nat) (w : World) (_hp : p.ok) (_hT : TabsAt w) (hb : Bk w g 24 p.cells)  :
    Calls Tryd.prog 36 #[.func (.func 24) #[] #[.pointer (some ⟨g, 0, none⟩)]] w fun e w' => e = .returned (.bool (!m2 p)) ∧ w.grownBy w' none := by
  have HM := Lib.hid (may_2 p g w hb)
  clear _hp _hT hb
  go_enter Tryd.func36, Tryd.ntmps36
  go_wp2_with fail
  refine HM.out.mono ?_
  rintro e w1 ⟨rfl, hg⟩
  have HG := Lib.hid hg
  clear hg
  go_wp2
  go_ret
  exact ⟨rfl, HG.out⟩
set_option maxHeartbeats 400000 in
theorem ask_3 (p : Par) (g : Nat) (w : World) (hp : p.ok) (_hT : TabsAt w) (hb : Bk w g 24 p.cells) (h2 : m2 p = true) :
    Calls Tryd.prog 36 #[.func (.func 26) #[] #[.pointer (some ⟨g, 0, none⟩)]] w fun e w' => e = .returned (.bool (!m3 p)) ∧ w.grownBy w' none := by
  have HM := Lib.hid (may_3 p g w hp hb h2)
  clear hp _hT hb h2
  go_enter Tryd.func36, Tryd.ntmps36
  go_wp2_with fail
  refine HM.out.mono ?_
  rintro e w1 ⟨rfl, hg⟩
  have HG := Lib.hid hg
  clear hg
  go_wp2
  go_ret
  exact ⟨rfl, HG.out⟩
set_option maxHeartbeats 400000 in
theorem ask_4 (p : Par) (g : Nat) (w : World) (_hp : p.ok) (_hT : TabsAt w) (hb : Bk w g 24 p.cells)  :
    Calls Tryd.prog 36 #[.func (.func 27) #[] #[.pointer (some ⟨g, 0, none⟩)]] w fun e w' => e = .returned (.bool (!m4 p)) ∧ w.grownBy w' none := by
  have HM := Lib.hid (may_4 p g w hb)
  clear _hp _hT hb
  go_enter Tryd.func36, Tryd.ntmps36
  go_wp2_with fail
  refine HM.out.mono ?_
  rintro e w1 ⟨rfl, hg⟩
  have HG := Lib.hid hg
  clear hg
  go_wp2
  go_ret
  exact ⟨rfl, HG.out⟩
set_option maxHeartbeats 400000 in
theorem ask_5 (p : Par) (g : Nat) (w : World) (_hp : p.ok) (_hT : TabsAt w) (hb : Bk w g 24 p.cells)  :
    Calls Tryd.prog 36 #[.func (.func 28) #[] #[.pointer (some ⟨g, 0, none⟩)]] w fun e w' => e = .returned (.bool (!m5 p)) ∧ w.grownBy w' none := by
  have HM := Lib.hid (may_5 p g w hb)
  clear _hp _hT hb
  go_enter Tryd.func36, Tryd.ntmps36
  go_wp2_with fail
  refine HM.out.mono ?_
  rintro e w1 ⟨rfl, hg⟩
  have HG := Lib.hid hg
  clear hg
  go_wp2
  go_ret
  exact ⟨rfl, HG.out⟩
set_option maxHeartbeats 400000 in
theorem ask_6 (p : Par) (g : Nat) (w : World) (_hp : p.ok) (_hT : TabsAt w) (hb : Bk w g 24 p.cells)  :
    Calls Tryd.prog 36 #[.func (.func 29) #[] #[.pointer (some ⟨g, 0, none⟩)]] w fun e w' => e = .returned (.bool (!m6 p)) ∧ w.grownBy w' none := by
  have HM := Lib.hid (may_6 p g w hb)
  clear _hp _hT hb
  go_enter Tryd.func36, Tryd.ntmps36
  go_wp2_with fail
  refine HM.out.mono ?_
  rintro e w1 ⟨rfl, hg⟩
  have HG := Lib.hid hg
  clear hg
  go_wp2
  go_ret
  exact ⟨rfl, HG.out⟩
set_option maxHeartbeats 400000 in
theorem ask_7 (p : Par) (g : Nat) (w : World) (_hp : p.ok) (_hT : TabsAt w) (hb : Bk w g 24 p.cells)  :
    Calls Tryd.prog 36 #[.func (.func 30) #[] #[.pointer (some ⟨g, 0, none⟩)]] w fun e w' => e = .returned (.bool (!m7 p)) ∧ w.grownBy w' none := by
  have HM := Lib.hid (may_7 p g w hb)
  clear _hp _hT hb
  go_enter Tryd.func36, Tryd.ntmps36
  go_wp2_with fail
  refine HM.out.mono ?_
  rintro e w1 ⟨rfl, hg⟩
  have HG := Lib.hid hg
  clear hg
  go_wp2
  go_ret
  exact ⟨rfl, HG.out⟩
set_option maxHeartbeats 400000 in
theorem ask_8 (p : Par) (g : Nat) (w : World) (hp : p.ok) (_hT : TabsAt w) (hb : Bk w g 24 p.cells) (h5 : m5 p = true) (h7 : m7 p = true) :
    Calls Tryd.prog 36 #[.func (.func 31) #[] #[.pointer (some ⟨g, 0, none⟩)]] w fun e w' => e = .returned (.bool (!m8 p)) ∧ w.grownBy w' none := by
  have HM := Lib.hid (may_8 p g w hp hb h5 h7)
  clear hp _hT hb h5 h7
  go_enter Tryd.func36, Tryd.ntmps36
  go_wp2_with fail
  refine HM.out.mono ?_
  rintro e w1 ⟨rfl, hg⟩
  have HG := Lib.hid hg
  clear hg
  go_wp2
  go_ret
  exact ⟨rfl, HG.out⟩
set_option maxHeartbeats 400000 in
theorem ask_9 (p : Par) (g : Nat) (w : World) (_hp : p.ok) (hT : TabsAt w) (hb : Bk w g 24 p.cells)  :
    Calls Tryd.prog 36 #[.func (.func 32) #[] #[.pointer (some ⟨g, 0, none⟩)]] w fun e w' => e = .returned (.bool (!m9 p)) ∧ w.grownBy w' none := by
  have HM := Lib.hid (may_9 p g w hT hb)
  clear _hp hT hb
  go_enter Tryd.func36, Tryd.ntmps36
  go_wp2_with fail
  refine HM.out.mono ?_
  rintro e w1 ⟨rfl, hg⟩
  have HG := Lib.hid hg
  clear hg
  go_wp2
  go_ret
  exact ⟨rfl, HG.out⟩
set_option maxHeartbeats 400000 in
theorem ask_10 (p : Par) (g : Nat) (w : World) (hp : p.ok) (_hT : TabsAt w) (hb : Bk w g 24 p.cells)  :
    Calls Tryd.prog 36 #[.func (.func 34) #[] #[.pointer (some ⟨g, 0, none⟩)]] w fun e w' => e = .returned (.bool (!m10 p)) ∧ w.grownBy w' none := by
  have HM := Lib.hid (may_10 p g w hp hb)
  clear hp _hT hb
  go_enter Tryd.func36, Tryd.ntmps36
  go_wp2_with fail
  refine HM.out.mono ?_
  rintro e w1 ⟨rfl, hg⟩
  have HG := Lib.hid hg
  clear hg
  go_wp2
  go_ret
  exact ⟨rfl, HG.out⟩
theorem ask_any (p : Par) (g : Nat) (w : World) (hp : p.ok) (hT : TabsAt w) (hb : Bk w g 24 p.cells) : ∀ (j : Nat) (_h : j < (fvs g).length) (h' : j < (ms p).length), (∀ i (hi : i < j), (ms p)[i]'(by omega) = true) →
    Calls Tryd.prog 36 #[(fvs g)[j]] w fun e w' => e = .returned (.bool (!(ms p)[j])) ∧ w.grownBy w' none
  | 0, _, _, _ => ask_1 p g w hp hT hb
  | 1, _, _, _ => ask_2 p g w hp hT hb
  | 2, _, _, hh => ask_3 p g w hp hT hb (hh 1 (by omega))
  | 3, _, _, _ => ask_4 p g w hp hT hb
  | 4, _, _, _ => ask_5 p g w hp hT hb
  | 5, _, _, _ => ask_6 p g w hp hT hb
  | 6, _, _, _ => ask_7 p g w hp hT hb
  | 7, _, _, hh => ask_8 p g w hp hT hb (hh 4 (by omega)) (hh 6 (by omega))
  | 8, _, _, _ => ask_9 p g w hp hT hb
  | 9, _, _, _ => ask_10 p g w hp hT hb
  | n + 10, h, _, _ => absurd h (by simp [fvs])
theorem mayP_all (p : Par) : mayP p = (ms p).all id := by simp [mayP, ms, Bool.and_assoc]
/-- What IndexFunc tells of the asks. -/
def Found (p : Par) (w : World) (e : Ending) (w' : World) : Prop := ∃ n : Int, e = .returned (.int .i64 n) ∧ decide (0 ≤ n) = !mayP p ∧ w.grownBy w' none
set_option maxHeartbeats 400000 in
theorem index_any (p : Par) (g ga : Nat) (t : TypeId) (w : World) (hp : p.ok) (hT : TabsAt w) (hb : Bk w g 24 p.cells) (ha : Bk w ga t (fvs g).toArray) :
    Calls Tryd.prog 44 #[.slice (some ⟨ga, 0, none⟩) 10 10, .func (.func 36) #[] #[]] w (Found p w) := by
  have HP := Lib.hid hp
  have HT := Lib.hid hT
  have HB := Lib.hid hb
  have HA := Lib.hid ha
  clear hp hT hb ha
  go_enter Tryd.func44, Tryd.ntmps44
  go_wp2_with fail
  go_loopg [8] 10 (fun n s8 wx => ∃ j : Nat, j + n = 10 ∧ s8 = .int .i64 j ∧ Hid (w.grownBy wx none ∧ ∀ i (_ : i < j) (h : i < (ms p).length), (ms p)[i] = true))
  case atStart => exact ⟨0, by omega, rfl, Lib.hid ⟨World.grownBy.refl w none, fun i hi => absurd hi (by omega)⟩⟩
  case round =>
    obtain ⟨j, hj, rfl, HX⟩ := hrel
    cases gk with
    | zero =>
      obtain rfl : j = 10 := by omega
      have HE : Hid (Found p w (.returned (.int .i64 (-1))) wr) := Lib.hid ⟨-1, rfl, by
        have : mayP p = true := by
          rw [mayP_all, List.all_eq_true]
          intro b hb
          obtain ⟨i, hi, rfl⟩ := List.getElem_of_mem hb
          exact HX.out.2 i (by simp [ms] at hi; omega) hi
        rw [this]
        rfl, HX.out.1⟩
      clear HX
      go_wp2
      go_ret
      exact HE.out
    | succ k =>
      have hjn : (j : Int) < 10 := by omega
      have hj1 : j < (fvs g).length := by simp [fvs]; omega
      have hj2 : j < (ms p).length := by simp [ms]; omega
      have hcell : wr.cell? ⟨ga, j, none⟩ = some (fvs g)[j] := by
        rw [(HA.out.grown HX.out.1 (by simp)).cell j, List.getElem?_toArray]
        exact List.getElem?_eq_getElem hj1
      have HC := Lib.hid (ask_any p g wr HP.out (HT.out.kept HX.out.1) (HB.out.grown HX.out.1 (by simp)) j hj1 hj2 (fun i hi => HX.out.2 i hi (by omega)))
      have HV : Hid ((ms p)[j] = true ∨ (ms p)[j] = false) := Lib.hid (by cases (ms p)[j] <;> simp)
      have HR : Hid ((ms p)[j] = true → ∀ i (_ : i < j + 1) (h : i < (ms p).length), (ms p)[i] = true) := Lib.hid (fun h i hi hl => by
        rcases Nat.lt_or_ge i j with h1 | h1
        · exact HX.out.2 i h1 hl
        · obtain rfl : i = j := by omega
          exact h)
      have HN : Hid ((ms p)[j] = false → mayP p = false) := Lib.hid (fun h => by
        rw [mayP_all, Bool.eq_false_iff]
        intro hall
        rw [List.all_eq_true] at hall
        have := hall _ (List.getElem_mem hj2)
        simp [h] at this)
      have HG := Lib.hid HX.out.1
      generalize (fvs g)[j] = fv at *
      generalize (ms p)[j] = b at *
      clear HX hj1 hj2
      rcases HV.out with rfl | rfl
      · go_wp2_with fail
        refine HC.out.mono ?_
        rintro e w1 ⟨rfl, hg⟩
        have HG1 := Lib.hid (HG.out.trans hg)
        clear hg
        go_wp2
        go_roundg k
        case measure => omega
        case rel => exact ⟨j + 1, by omega, by go_num, Lib.hid ⟨HG1.out, HR.out (by simp)⟩⟩
      · have HE : Hid (∀ w1, w.grownBy w1 none → Found p w (.returned (.int .i64 j)) w1) := Lib.hid (fun w1 hg => ⟨j, rfl, by rw [HN.out rfl]; simp, hg⟩)
        go_wp2_with fail
        refine HC.out.mono ?_
        rintro e w1 ⟨rfl, hg⟩
        have HG1 := Lib.hid (HG.out.trans hg)
        clear hg
        go_wp2
        go_ret
        exact HE.out _ HG1.out
set_option maxHeartbeats 400000 in
theorem contains_any (p : Par) (g ga : Nat) (t : TypeId) (w : World) (hp : p.ok) (hT : TabsAt w) (hb : Bk w g 24 p.cells) (ha : Bk w ga t (fvs g).toArray) :
    Calls Tryd.prog 35 #[.slice (some ⟨ga, 0, none⟩) 10 10, .func (.func 36) #[] #[]] w fun e w' => e = .returned (.bool (!mayP p)) ∧ w.grownBy w' none := by
  have HI := Lib.hid (index_any p g ga t w hp hT hb ha)
  clear hp hT hb ha
  go_enter Tryd.func35, Tryd.ntmps35
  go_wp2_with fail
  refine HI.out.mono ?_
  rintro e w1 ⟨n, rfl, hn, hg⟩
  have HN := Lib.hid hn
  have HG := Lib.hid hg
  clear hn hg
  go_wp2
  go_ret
  exact ⟨ret_bool HN.out, HG.out⟩
set_option maxHeartbeats 400000 in
theorem may_any (p : Par) (w : World) (hp : p.ok) (hT : TabsAt w) :
    Calls Tryd.prog 10 #[p.v] w fun e w' => e = .returned (.bool (mayP p)) ∧ w.grownBy w' none := by
  have hg1 : w.grownBy (w.alloc (Obj.cells p.cells 24)) none := World.grownBy_alloc w _ none
  have hg2 := World.grownBy_alloc (w.alloc (Obj.cells p.cells 24)) (Obj.cells (fvs w.heap.size).toArray 26) none
  have HC := Lib.hid (contains_any p w.heap.size (w.heap.size + 1) 26 ((w.alloc (Obj.cells p.cells 24)).alloc (Obj.cells (fvs w.heap.size).toArray 26)) hp (hT.kept (hg1.trans hg2)) ((Bk.new w _ _).alloc _)
    (by have := Bk.new (w.alloc (Obj.cells p.cells 24)) 26 (fvs w.heap.size).toArray; rwa [World.size_alloc] at this))
  have HGR := Lib.hid (hg1.trans hg2)
  clear hp hT hg1 hg2
  unfold fvs at HC HGR
  go_enter Tryd.func10, Tryd.ntmps10
  go_wp2_with fail
  refine HC.out.mono ?_
  rintro e w1 ⟨rfl, hg⟩
  have HG := Lib.hid (HGR.out.trans hg)
  clear hg
  go_wp2
  go_ret
  exact ⟨ret_bool (by simp), HG.out⟩
end Go.Proofs.YtnjbigbiclfcoaaDoor
