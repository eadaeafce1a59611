/- pedersen.Share, turned, RowComs, ColComs, Fits; slices.Equal of numbers; walked. -/
import Derived.Test.YtmbbahlenanpfaaEncW
import Derived.Test.YtmbbahlenanpfaaGrpB
import Derived.Test.YtmbbahlenanpfaaElOk
import Derived.Deep.OwnRows
import Derived.IntWalk
import Derived.BigQuiet
namespace Go.Proofs.Ytmbbahlenanpfaa
open Go.RowKit

theorem atGo_U64 (p : Par) (i : Int) : ∀ (l : List Int) (x e : Int), U64 x → U64 (atGo p i l x e)
  | [], _, _, h => h
  | y :: l, _, _, _ => atGo_U64 p i l _ _ (timesI_U64 _ _)
theorem atI_U64 (p : Par) (l : List Int) (i : Int) : U64 (atI p l i) := atGo_U64 p i l _ _ (timesI_U64 _ _)
def shareI (p : Par) (coms : List (List Int)) (i : Int) : List Int := coms.map fun l => atI p l i
def wideI (l : List (List Int)) : Nat := l.foldl (fun n c => max n c.length) 0
def colI (p : Par) (l : List (List Int)) (j : Nat) : List Int := l.map fun c => c[j]?.getD (timesI p.P [])
def turnedI (p : Par) (l : List (List Int)) : List (List Int) := (List.range (wideI l)).map (colI p l)
def rowComsI (p : Par) (m : List (List (List Int))) (x : Int) : List (List Int) := m.map fun l => shareI p (turnedI p l) x
def colComsI (p : Par) (m : List (List (List Int))) (y : Int) : List (List Int) := m.map fun l => shareI p l y
theorem map_take_snoc' {α β : Type} (f : α → β) (l : List α) (j : Nat) (h : j < l.length) : (l.take (j + 1)).map f = (l.take j).map f ++ [f l[j]] := by
  rw [List.take_succ_eq_append_getElem h, List.map_append]
  rfl

set_option maxRecDepth 100000 in
set_option maxHeartbeats 400000 in
theorem share_any (p : Par) (v : Value) (ls : List (List Int)) (i : Int) (X : Nat → Prop) (w : World) (h : Sl (encS encU) X w v ls) (hi : U64 i) (hb : ls.length ≤ 100000) :
    Calls Try.prog 13 #[p.v, v, .int .u64 i] w (Gives encU (fun g => w.heap.size ≤ g) w (shareI p ls i)) := by
  have H := Lib.hid h
  have HI := Lib.hid hi
  obtain ⟨A, c, rfl, hc1, hc2⟩ := h.form
  have HST : Hid (Acc encU w.heap.size 23 (fun g => w.heap.size ≤ g) (w.alloc (Obj.cells p.cells 25)) (.slice none 0 0) ((ls.take 0).map fun l => atI p l i) ∧ w.grownBy (w.alloc (Obj.cells p.cells 25)) none ∧ Bk (w.alloc (Obj.cells p.cells 25)) w.heap.size 25 p.cells) := Lib.hid ⟨Acc.nil _ _ _ _ _, World.grownBy_alloc w _ none, Bk.new w _ _⟩
  clear h hi
  go_enter Try.func13, Try.ntmps13
  go_wp2_with fail
  go_loopg [7, 12] ls.length (fun g s7 s12 wx => ∃ j : Nat, j + g = ls.length ∧ s12 = .int .i64 j ∧ Hid (Acc encU w.heap.size 23 (fun g => w.heap.size ≤ g) wx s7 ((ls.take j).map fun l => atI p l i) ∧ w.grownBy wx none ∧ Bk wx w.heap.size 25 p.cells))
  case atStart => exact ⟨0, by omega, rfl, HST⟩
  case round =>
    obtain ⟨j, hj, rfl, HX⟩ := hrel
    cases gk with
    | zero =>
      obtain rfl : j = ls.length := by omega
      have HR : Hid (Sl encU (fun g => w.heap.size ≤ g) wr u7 (shareI p ls i) ∧ w.grownBy wr none) := Lib.hid ⟨by have := HX.out.1.sl; rwa [List.take_length] at this, HX.out.2.1⟩
      clear HX HST
      go_wp2
      go_ret
      exact ⟨_, rfl, HR.out.1, HR.out.2⟩
    | succ m =>
      have hjn : (j : Int) < (ls.length : Int) := by omega
      have hjN : j < ls.length := by omega
      obtain ⟨hacc, hg, hbp⟩ := HX.out
      obtain ⟨g, o, c', u, e, _, _, hcu, hsu⟩ := (H.out.kept hg).atS hjN
      injection e with e1 e2 e3
      subst e1 e3
      obtain ⟨A1, c1, e1, _, _⟩ := hsu.form
      subst e1
      have HSN := Lib.hid (map_take_snoc' (fun l => atI p l i) ls j hjN)
      have HF := Lib.hid (at_all p _ ls[j] i X wr hsu HI.out)
      have HU := Lib.hid (atI_U64 p ls[j] i)
      have HAC := Lib.hid hacc
      have HG := Lib.hid hg
      have HBp := Lib.hid hbp
      have hp := hbp.prule
      have HLB : Hid ((((ls.take j).map fun l => atI p l i).length + 1) * 8 ≤ 140737488355328) := Lib.hid (by simp; omega)
      clear hacc hg hbp hsu e2 HX HST
      generalize hy : ls[j] = y at HSN HF HU hcu
      clear hy
      generalize y.length = n1 at *
      go_wp2_with fail
      refine HF.out.mono ?_
      rintro e' w1 ⟨rfl, hg1⟩
      have HG2 := Lib.hid (HG.out.trans hg1)
      have HA1 := Lib.hid (HAC.out.kept hg1)
      have HBp1 := Lib.hid (HBp.out.grown hg1 (by simp))
      clear hg1 hp
      go_wp2_with (at_builtin; refine wpList_pushG rfl (.tmp 16) (.tmp 21) rfl (E := encU) el_u64 HG2.out HA1.out (fun _ h => h) ⟨rfl, HU.out⟩ HLB.out rfl rfl ?_)
      intro v2 w2 hacc2 hg2 hgo
      have HFIN : Hid (Acc encU w.heap.size 23 (fun g => w.heap.size ≤ g) w2 v2 ((ls.take (j + 1)).map fun l => atI p l i) ∧ w.grownBy w2 none ∧ Bk w2 w.heap.size 25 p.cells) := Lib.hid ⟨by rw [HSN.out]; simpa using hacc2, hg2, HBp1.out.grown hgo (fun e => HA1.out.ne_bk HBp1.out (by decide) e.symm)⟩
      clear hacc2 hg2 hgo
      go_wp2_with fail
      go_roundg m
      case measure => omega
      case rel => exact ⟨j + 1, by omega, by go_num, HFIN⟩
/-- What a call told lies beyond what was there. -/
theorem Sl.fresh {α : Type} {E : Enc α} {w0 w w' : World} {v u : Value} {xs : List α} {base : Nat} {e : TypeId} {β : Type} {F : Enc β} {Y : Nat → Prop} {ys : List β} (h : Sl E (fun g => w.heap.size ≤ g) w' v xs) (hg : w0.grownBy w none) (ha : Acc F base e Y w u ys) :
    Sl E (fun g => w0.heap.size ≤ g ∧ some g ≠ u.ownBlock) w' v xs :=
  h.more fun g _ h => ⟨Nat.le_trans hg.size h, fun e => by have := (ha.lt g e.symm).2; omega⟩
set_option maxRecDepth 100000 in
set_option maxHeartbeats 400000 in
theorem colComs_any (p : Par) (v : Value) (m : List (List (List Int))) (y : Int) (X : Nat → Prop) (w : World) (h : Sl (encS (encS encU)) X w v m) (hy : U64 y) (hb : m.length ≤ 100000) (hb2 : ∀ l ∈ m, l.length ≤ 100000) :
    Calls Try.prog 7 #[p.v, v, .int .u64 y] w (Gives (encS encU) (fun g => w.heap.size ≤ g) w (colComsI p m y)) := by
  have H := Lib.hid h
  have HI := Lib.hid hy
  have HB2 := Lib.hid hb2
  obtain ⟨A, c, rfl, hc1, hc2⟩ := h.form
  have HST : Hid (Acc (encS encU) w.heap.size 27 (fun g => w.heap.size ≤ g) (w.alloc (Obj.cells p.cells 25)) (.slice none 0 0) ((m.take 0).map fun l => shareI p l y) ∧ w.grownBy (w.alloc (Obj.cells p.cells 25)) none ∧ Bk (w.alloc (Obj.cells p.cells 25)) w.heap.size 25 p.cells) := Lib.hid ⟨Acc.nil _ _ _ _ _, World.grownBy_alloc w _ none, Bk.new w _ _⟩
  clear h hy hb2
  go_enter Try.func7, Try.ntmps7
  go_wp2_with fail
  go_loopg [7, 12] m.length (fun g s7 s12 wx => ∃ j : Nat, j + g = m.length ∧ s12 = .int .i64 j ∧ Hid (Acc (encS encU) w.heap.size 27 (fun g => w.heap.size ≤ g) wx s7 ((m.take j).map fun l => shareI p l y) ∧ w.grownBy wx none ∧ Bk wx w.heap.size 25 p.cells))
  case atStart => exact ⟨0, by omega, rfl, HST⟩
  case round =>
    obtain ⟨j, hj, rfl, HX⟩ := hrel
    cases gk with
    | zero =>
      obtain rfl : j = m.length := by omega
      have HR : Hid (Sl (encS encU) (fun g => w.heap.size ≤ g) wr u7 (colComsI p m y) ∧ w.grownBy wr none) := Lib.hid ⟨by have := HX.out.1.sl; rwa [List.take_length] at this, HX.out.2.1⟩
      clear HX HST
      go_wp2
      go_ret
      exact ⟨_, rfl, HR.out.1, HR.out.2⟩
    | succ n =>
      have hjn : (j : Int) < (m.length : Int) := by omega
      have hjN : j < m.length := by omega
      obtain ⟨hacc, hg, hbp⟩ := HX.out
      obtain ⟨g, o, c', u, e, _, _, hcu, hsu⟩ := (H.out.kept hg).atS hjN
      injection e with e1 e2 e3
      subst e1 e3
      obtain ⟨A1, c1, e1, _, _⟩ := hsu.form
      subst e1
      have HSN := Lib.hid (map_take_snoc' (fun l => shareI p l y) m j hjN)
      have HF := Lib.hid (share_any p _ m[j] y X wr hsu HI.out (HB2.out _ (List.getElem_mem hjN)))
      have HSL : Hid ((shareI p m[j] y).length = m[j].length) := Lib.hid (by simp [shareI])
      have HAC := Lib.hid hacc
      have HG := Lib.hid hg
      have HBp := Lib.hid hbp
      have hp := hbp.prule
      have HLB : Hid ((((m.take j).map fun l => shareI p l y).length + 1) * 24 ≤ 140737488355328) := Lib.hid (by simp; omega)
      clear hacc hg hbp hsu e2 HX HST
      generalize hy : m[j] = z at HSN HF hcu HSL
      clear hy
      generalize z.length = n1 at *
      go_wp2_with fail
      refine HF.out.mono ?_
      rintro e' w1 ⟨v1, rfl, hs1, hg1⟩
      obtain ⟨A2, c2, e2, _, _⟩ := hs1.form
      rw [HSL.out] at e2
      subst e2
      have HG2 := Lib.hid (HG.out.trans hg1)
      have HA1 := Lib.hid (HAC.out.kept hg1)
      have HBp1 := Lib.hid (HBp.out.grown hg1 (by simp))
      have HREP : Hid (Enc.rep (encS encU) (fun g => w.heap.size ≤ g ∧ some g ≠ u7.ownBlock) w1 [.slice A2 n1 c2] (shareI p z y)) := Lib.hid ⟨_, rfl, hs1.fresh HG.out HAC.out⟩
      clear hg1 hp hs1
      go_wp2_with (at_builtin; refine wpList_pushG rfl (.tmp 16) (.tmp 21) rfl (E := encS encU) el_nums HG2.out HA1.out (fun _ h => h) HREP.out HLB.out rfl rfl ?_)
      intro v2 w2 hacc2 hg2 hgo
      have HFIN : Hid (Acc (encS encU) w.heap.size 27 (fun g => w.heap.size ≤ g) w2 v2 ((m.take (j + 1)).map fun l => shareI p l y) ∧ w.grownBy w2 none ∧ Bk w2 w.heap.size 25 p.cells) := Lib.hid ⟨by rw [HSN.out]; simpa using hacc2, hg2, HBp1.out.grown hgo (fun e => HA1.out.ne_bk HBp1.out (by decide) e.symm)⟩
      clear hacc2 hg2 hgo
      go_wp2_with fail
      go_roundg n
      case measure => omega
      case rel => exact ⟨j + 1, by omega, by go_num, HFIN⟩
theorem flatten_singles : ∀ (hs : List Value), (hs.map fun v => [v]).flatten = hs
  | [] => rfl
  | a :: l => by simpa using flatten_singles l
theorem wide_le (l : List (List Int)) (B : Nat) (h : ∀ c ∈ l, c.length ≤ B) : wideI l ≤ B := by
  have key : ∀ (l : List (List Int)) (n : Nat), n ≤ B → (∀ c ∈ l, c.length ≤ B) → l.foldl (fun n c => max n c.length) n ≤ B := by
    intro l
    induction l with
    | nil => intro n hn _; exact hn
    | cons c l ih => intro n hn h; exact ih _ (Nat.max_le.2 ⟨hn, h c (by simp)⟩) (fun d hd => h d (by simp [hd]))
  exact key l 0 (Nat.zero_le _) h
theorem wide_snoc (l : List (List Int)) (j : Nat) (h : j < l.length) : wideI (l.take (j + 1)) = max (wideI (l.take j)) l[j].length := by
  unfold wideI
  rw [List.take_succ_eq_append_getElem h, List.foldl_append]
  rfl
theorem colI_snoc (p : Par) (l : List (List Int)) (i j : Nat) (h : i < l.length) : colI p (l.take (i + 1)) j = colI p (l.take i) j ++ [l[i][j]?.getD (timesI p.P [])] := map_take_snoc' _ l i h
theorem colI_U64 (p : Par) (c : List Int) (j : Nat) (X : Nat → Prop) (w : World) (v : Value) (h : Sl encU X w v c) : U64 (c[j]?.getD (timesI p.P [])) := by
  by_cases hj : j < c.length
  · rw [List.getElem?_eq_getElem hj]
    obtain ⟨_, _, _, _, _, _, _, u⟩ := h.atU hj
    exact u
  · rw [List.getElem?_eq_none (by omega)]
    exact timesI_U64 _ _
set_option maxRecDepth 100000 in
set_option maxHeartbeats 1000000 in
theorem turned_any (p : Par) (v : Value) (l : List (List Int)) (X : Nat → Prop) (w : World) (h : Sl (encS encU) X w v l) (hb : l.length ≤ 100000) (hb2 : ∀ c ∈ l, c.length ≤ 100000) :
    Calls Try.prog 17 #[p.v, v] w (Gives (encS encU) (fun g => w.heap.size ≤ g) w (turnedI p l)) := by
  have H := Lib.hid h
  have HB2 := Lib.hid hb2
  obtain ⟨A, c, rfl, hc1, hc2⟩ := h.form
  have HB0 : Hid (Bk (w.alloc (Obj.cells p.cells 25)) w.heap.size 25 p.cells) := Lib.hid (Bk.new w _ _)
  have HG0 : Hid (w.grownBy (w.alloc (Obj.cells p.cells 25)) none) := Lib.hid (World.grownBy_alloc w _ none)
  have HWB : Hid (wideI l ≤ 100000) := Lib.hid (wide_le l _ hb2)
  have HW0 : Hid (wideI (l.take 0) = 0) := Lib.hid rfl
  clear h hb2
  go_enter Try.func17, Try.ntmps17
  go_wp2_with fail
  have HS0 : Hid ((w.alloc (Obj.cells p.cells 25)) = (w.alloc (Obj.cells p.cells 25))) := Lib.hid rfl
  go_loopg [5, 15] l.length (fun g s5 s15 wx => ∃ j n : Nat, j + g = l.length ∧ s15 = .int .i64 j ∧ s5 = .int .i64 n ∧ Hid (n = wideI (l.take j)) ∧ Hid (wx = (w.alloc (Obj.cells p.cells 25))))
  case atStart => exact ⟨0, 0, by omega, rfl, rfl, Lib.hid HW0.out.symm, HS0⟩
  case round =>
    obtain ⟨j, n, hj, rfl, rfl, HN, HX⟩ := hrel
    cases gk with
    | zero =>
      obtain rfl : j = l.length := by omega
      have HNW : Hid (n = wideI l) := Lib.hid (by have := HN.out; rwa [List.take_length] at this)
      obtain rfl : wr = (w.alloc (Obj.cells p.cells 25)) := HX.out
      have hn5 : n ≤ 100000 := by rw [HNW.out]; exact HWB.out
      have hmk := run_make_row' (P := Try.prog) 28 27 (.slice none 0 0) 24 Try.underlying28 info_nums rfl .i64 .i64 n (by omega) (by omega)
      have HBO : Hid (Bk ((w.alloc (Obj.cells p.cells 25)).alloc (.cells (madeCells #[.slice none 0 0] n) 27)) (w.heap.size + 1) 27 (List.replicate n (.slice none 0 0)).toArray) := Lib.hid (by
        have := Bk.new (w.alloc (Obj.cells p.cells 25)) 27 (madeCells #[.slice none 0 0] n)
        rw [World.size_alloc] at this
        exact this.of_eq (Array.toList_inj.1 (by rw [toList_madeCells_one])))
      have HST : Hid (Bk ((w.alloc (Obj.cells p.cells 25)).alloc (.cells (madeCells #[.slice none 0 0] n) 27)) (w.heap.size + 1) 27 (List.replicate n (Value.slice none 0 0)).toArray ∧
          (∀ i (hi : i < (List.replicate n (Value.slice none 0 0)).length), i < 0 → Sl encU (fun g => w.heap.size + 1 < g) ((w.alloc (Obj.cells p.cells 25)).alloc (.cells (madeCells #[.slice none 0 0] n) 27)) (List.replicate n (Value.slice none 0 0))[i] (colI p l i)) ∧
          (∀ i (hi : i < (List.replicate n (Value.slice none 0 0)).length), 0 ≤ i → (List.replicate n (Value.slice none 0 0))[i] = .slice none 0 0) ∧ w.grownBy ((w.alloc (Obj.cells p.cells 25)).alloc (.cells (madeCells #[.slice none 0 0] n) 27)) none ∧
          Bk ((w.alloc (Obj.cells p.cells 25)).alloc (.cells (madeCells #[.slice none 0 0] n) 27)) w.heap.size 25 p.cells) :=
        Lib.hid ⟨HBO.out, fun i hi h => absurd h (Nat.not_lt_zero _), fun i hi _ => by simp, HG0.out.trans (World.grownBy_alloc _ _ none), HB0.out.alloc _⟩
      have HLL : Hid ((List.replicate n (Value.slice none 0 0)).length = n) := Lib.hid (by simp)
      clear HX HS0 HBO HB0
      go_wp2_with fail
      go_loopg [28] n (fun g s28 wx => ∃ (j : Nat) (hs : List Value), j + g = n ∧ s28 = .int .i64 j ∧ Hid (hs.length = n) ∧ Hid (Bk wx (w.heap.size + 1) 27 hs.toArray ∧
          (∀ i (hi : i < hs.length), i < j → Sl encU (fun g => w.heap.size + 1 < g) wx hs[i] (colI p l i)) ∧ (∀ i (hi : i < hs.length), j ≤ i → hs[i] = .slice none 0 0) ∧ w.grownBy wx none ∧ Bk wx w.heap.size 25 p.cells))
      case atStart => exact ⟨0, _, by omega, rfl, HLL, HST⟩
      case round =>
        rename World => wj
        obtain ⟨j, hs, hj, rfl, HLH, HX⟩ := hrel
        cases gk with
        | zero =>
          obtain rfl : j = n := by omega
          have HR : Hid (Sl (encS encU) (fun g => w.heap.size ≤ g) wj (.slice (some ⟨w.heap.size + 1, 0, none⟩) j j) (turnedI p l) ∧ w.grownBy wj none) := Lib.hid (by
            obtain ⟨h1, h2, _, h4, _⟩ := HX.out
            have hTL : (turnedI p l).length = j := by simp [turnedI, HNW.out]
            have := Sl.block (E := encS encU) (X := fun g => w.heap.size ≤ g) (xs := turnedI p l) (c := j) h1 (by omega) (hs.map fun v => [v]) (by rw [List.length_map, HLH.out, hTL]) (fun i hi hi' => ⟨hs[i]'(by rw [HLH.out]; omega), by simp, by
              have hc := (h2 i (by rw [HLH.out]; omega) (by omega)).more (Y := fun g => w.heap.size ≤ g) (fun g _ hg => by omega)
              have he : (turnedI p l)[i] = colI p l i := by simp [turnedI]
              rw [he]
              exact hc⟩) (by
                rw [flatten_singles]) (by rw [hTL]; exact Nat.le_refl _) (by omega)
            rw [hTL] at this
            exact ⟨this, h4⟩)
          clear HX HST HLH
          go_wp2
          go_ret
          exact ⟨_, rfl, HR.out.1, HR.out.2⟩
        | succ m =>
          have hjn : (j : Int) < (n : Int) := by omega
          have hjh : j < hs.length := by rw [HLH.out]; omega
          have hlo : w.heap.size + 1 < wj.heap.size := HX.out.1.lt
          have HIN : Hid (Acc encU wj.heap.size 23 (fun g => wj.heap.size ≤ g) wj (.slice none 0 0) (colI p (l.take 0) j) ∧ Bk wj (w.heap.size + 1) 27 (hs.set j (.slice none 0 0)).toArray ∧ wj.grownBy wj (some (w.heap.size + 1)) ∧ Bk wj w.heap.size 25 p.cells) := Lib.hid ⟨Acc.nil _ _ _ _ _, by
            have := HX.out.2.2.1 j hjh (Nat.le_refl _)
            rw [← this, List.set_getElem_self]
            exact HX.out.1, World.grownBy.refl _ _, HX.out.2.2.2.2⟩
          have HGJ := Lib.hid HX.out.2.2.2.1
          have HLO := Lib.hid hlo
          clear hlo
          go_wp2_with fail
          go_loopg [33] l.length (fun g s33 wx => ∃ (i : Nat) (v : Value), i + g = l.length ∧ s33 = .int .i64 i ∧ Hid (Acc encU wj.heap.size 23 (fun g => wj.heap.size ≤ g) wx v (colI p (l.take i) j) ∧ Bk wx (w.heap.size + 1) 27 (hs.set j v).toArray ∧ wj.grownBy wx (some (w.heap.size + 1)) ∧ Bk wx w.heap.size 25 p.cells))
          case atStart => exact ⟨0, _, by omega, rfl, HIN⟩
          case round =>
            rename World => wi
            obtain ⟨i, v, hi, rfl, HY⟩ := hrel
            cases gk with
            | zero =>
              obtain rfl : i = l.length := by omega
              have HFIN : Hid (Bk wi (w.heap.size + 1) 27 (hs.set j v).toArray ∧ (∀ i (hi : i < (hs.set j v).length), i < j + 1 → Sl encU (fun g => w.heap.size + 1 < g) wi (hs.set j v)[i] (colI p l i)) ∧ (∀ i (hi : i < (hs.set j v).length), j + 1 ≤ i → (hs.set j v)[i] = .slice none 0 0) ∧ w.grownBy wi none ∧ Bk wi w.heap.size 25 p.cells) := Lib.hid (by
                obtain ⟨h1, h2, h3, h4⟩ := HY.out
                obtain ⟨_, k2, k3, k4, _⟩ := HX.out
                rw [List.take_length] at h1
                refine ⟨h2, fun i hi hij => ?_, fun i hi hij => ?_, grown_up k4 h3 (fun g e => by injection e with e; subst e; omega), h4⟩
                · rcases Nat.lt_or_ge i j with hlt | hge
                  · rw [List.getElem_set_ne (by omega)]
                    exact ((k2 i (by simpa using hi) hlt).bounded.keep h3 (fun g hg e => by injection e with e; have := hg.1; omega)).more (fun g _ hg => hg.1)
                  · obtain rfl : i = j := by omega
                    rw [List.getElem_set_self]
                    exact h1.sl.more (fun g _ hg => Nat.lt_of_lt_of_le HLO.out hg)
                · rw [List.getElem_set_ne (by omega)]
                  exact k3 i (by simpa using hi) (by omega))
              have HLH2 : Hid ((hs.set j v).length = n) := Lib.hid (by rw [List.length_set]; exact HLH.out)
              clear HX HY HST HIN
              go_wp2_with fail
              go_roundg m
              case measure => omega
              case rel => exact ⟨j + 1, _, by omega, by go_num, HLH2, HFIN⟩
            | succ q =>
              have hin : (i : Int) < (l.length : Int) := by omega
              have hiN : i < l.length := by omega
              obtain ⟨hacc, hbo, hgj, hbp⟩ := HY.out
              have hgw : w.grownBy wi none := grown_up HGJ.out hgj (fun g e => by injection e with e; subst e; omega)
              obtain ⟨g, o, c', u, e, _, _, hcu, hsu⟩ := (H.out.kept hgw).atS hiN
              injection e with e1 e2 e3
              subst e1 e3
              obtain ⟨A1, c1, e1, _, _⟩ := hsu.form
              subst e1
              have HCV := Lib.hid hsu
              have HSN := Lib.hid (colI_snoc p l i j hiN)
              have HUX := Lib.hid (colI_U64 p l[i] j _ _ _ hsu)
              obtain ⟨A2, c2, e4, _, _⟩ := hacc.sl.form
              have hcl : (colI p (l.take i) j).length = i := by simp [colI]; omega
              rw [hcl] at e4
              subst e4
              have HAC := Lib.hid hacc
              have HBO := Lib.hid hbo
              have HGW := Lib.hid hgw
              have HGI := Lib.hid hgj
              have HBp := Lib.hid hbp
              have hp := hbp.prule
              have hlc1 : l[i].length ≤ 100000 := HB2.out _ (List.getElem_mem hiN)
              have HJH := Lib.hid hjh
              have HLB : Hid (((colI p (l.take i) j).length + 1) * 8 ≤ 140737488355328) := Lib.hid (by rw [hcl]; omega)
              clear hacc hbo hgj hbp hgw hsu e2 hcl HY HIN HST hjh
              obtain ⟨L, hL⟩ : ∃ L, L = l[i] := ⟨_, rfl⟩
              rw [← hL] at hcu hlc1
              rw [← hL] at HCV HSN HUX
              clear hL
              have hjL0 : (0 : Int) ≤ (j : Int) := by omega
              by_cases hjL : j < L.length
              · have hjLi : (j : Int) < (L.length : Int) := by omega
                rw [show L[j]?.getD (timesI p.P []) = L[j] by rw [List.getElem?_eq_getElem hjL]; rfl] at HSN HUX
                go_wp2_with fail
                refine (times_nil p _).mono ?_
                rintro e' w1 ⟨rfl, hg1⟩
                have HG1 : Hid (wi.grownBy w1 none) := Lib.hid hg1
                have HA1 := Lib.hid (HAC.out.kept hg1)
                have HBO1 := Lib.hid (HBO.out.grown hg1 (by simp))
                have HBp1 := Lib.hid (HBp.out.grown hg1 (by simp))
                have HGJ1 : Hid (wj.grownBy w1 (some (w.heap.size + 1))) := Lib.hid (HGI.out.trans (grown_weak hg1))
                have co : w1.cell? ⟨w.heap.size + 1, j, none⟩ = some (.slice A2 i c2) := by rw [HBO1.out.cell j]; simp [HJH.out]
                have lo := HBO1.out.lt
                have cx := (HCV.out.kept hg1)
                obtain ⟨gq, oq, cq, eq1, _, _, cq0, _⟩ := cx.atU hjL
                injection eq1 with eq1
                subst eq1
                clear hg1 hp
                go_wp2_with (at_builtin; refine wpList_push rfl (.tmp 52) (.tmp 54) rfl (E := encU) (X := fun g => wj.heap.size ≤ g) el_u64 HA1.out rfl rfl ⟨rfl, HUX.out⟩ HLB.out HGJ1.out.size (fun g h => Nat.le_trans HGJ1.out.size h) ?_)
                intro v2 w2 hacc2 hg2 hm2
                have hne : ∀ g, (Value.slice A2 i c2).ownBlock = some g → wj.heap.size ≤ g := fun g e => (HA1.out.lt g e).1
                obtain ⟨A3, c3, e5, _, _⟩ := hacc2.sl.form
                have hl3 : (colI p (l.take i) j ++ [L[j]]).length = i + 1 := by simp [colI]; omega
                rw [hl3] at e5
                subst e5
                have HBO2 : Hid (Bk w2 (w.heap.size + 1) 27 (hs.set j (.slice A2 i c2)).toArray) := Lib.hid (HBO1.out.grown hg2 (fun e => by have := hne _ e.symm; have := HLO.out; omega))
                have HBp2 : Hid (Bk w2 w.heap.size 25 p.cells) := Lib.hid (HBp1.out.grown hg2 (fun e => by have := hne _ e.symm; have := HLO.out; omega))
                have HGJ2 : Hid (wj.grownBy w2 (some (w.heap.size + 1))) := Lib.hid ⟨hg2.os.trans HGJ1.out.os, hg2.tape.trans HGJ1.out.tape, hg2.output.trans HGJ1.out.output, Nat.le_trans HGJ1.out.size hg2.size, fun k hk hkn => (hg2.block k (Nat.lt_of_lt_of_le hk HGJ1.out.size) (fun e => by have := hne _ e.symm; omega)).trans (HGJ1.out.block k hk hkn)⟩
                have co2 : w2.cell? ⟨w.heap.size + 1, j, none⟩ = some (.slice A2 i c2) := by rw [HBO2.out.cell j]; simp [HJH.out]
                have fo2 := HBO2.out.free j
                have HFIN : Hid (Acc encU wj.heap.size 23 (fun g => wj.heap.size ≤ g) (w2.setCell ⟨w.heap.size + 1, j, none⟩ (.slice A3 (i + 1) c3)) (.slice A3 (i + 1) c3) (colI p (l.take (i + 1)) j) ∧ Bk (w2.setCell ⟨w.heap.size + 1, j, none⟩ (.slice A3 (i + 1) c3)) (w.heap.size + 1) 27 (hs.set j (.slice A3 (i + 1) c3)).toArray ∧ wj.grownBy (w2.setCell ⟨w.heap.size + 1, j, none⟩ (.slice A3 (i + 1) c3)) (some (w.heap.size + 1)) ∧ Bk (w2.setCell ⟨w.heap.size + 1, j, none⟩ (.slice A3 (i + 1) c3)) w.heap.size 25 p.cells) := Lib.hid ⟨by
                    rw [HSN.out]
                    exact hacc2.keep (grownBy_set (World.grownBy.refl _ (some (w.heap.size + 1))) j _) (fun g hg e => by injection e with e; have := HLO.out; omega), (HBO2.out.set j _).of_eq (by simp), grownBy_set HGJ2.out j _, HBp2.out.far (by simp) _⟩
                clear hacc2 hg2 hm2 hne co lo cx
                go_wp2_with fail
                go_roundg q
                case measure => omega
                case rel => exact ⟨i + 1, _, by omega, by go_num, HFIN⟩
              · have hjLi : ¬ (j : Int) < (L.length : Int) := by omega
                rw [show L[j]?.getD (timesI p.P []) = timesI p.P [] by rw [List.getElem?_eq_none (by omega)]; rfl] at HSN HUX
                go_wp2_with fail
                refine (times_nil p _).mono ?_
                rintro e' w1 ⟨rfl, hg1⟩
                have HG1 : Hid (wi.grownBy w1 none) := Lib.hid hg1
                have HA1 := Lib.hid (HAC.out.kept hg1)
                have HBO1 := Lib.hid (HBO.out.grown hg1 (by simp))
                have HBp1 := Lib.hid (HBp.out.grown hg1 (by simp))
                have HGJ1 : Hid (wj.grownBy w1 (some (w.heap.size + 1))) := Lib.hid (HGI.out.trans (grown_weak hg1))
                have co : w1.cell? ⟨w.heap.size + 1, j, none⟩ = some (.slice A2 i c2) := by rw [HBO1.out.cell j]; simp [HJH.out]
                have lo := HBO1.out.lt
                have cx := (HCV.out.kept hg1)
                clear hg1 hp
                go_wp2_with (at_builtin; refine wpList_push rfl (.tmp 52) (.tmp 54) rfl (E := encU) (X := fun g => wj.heap.size ≤ g) el_u64 HA1.out rfl rfl ⟨rfl, HUX.out⟩ HLB.out HGJ1.out.size (fun g h => Nat.le_trans HGJ1.out.size h) ?_)
                intro v2 w2 hacc2 hg2 hm2
                have hne : ∀ g, (Value.slice A2 i c2).ownBlock = some g → wj.heap.size ≤ g := fun g e => (HA1.out.lt g e).1
                obtain ⟨A3, c3, e5, _, _⟩ := hacc2.sl.form
                have hl3 : (colI p (l.take i) j ++ [timesI p.P []]).length = i + 1 := by simp [colI]; omega
                rw [hl3] at e5
                subst e5
                have HBO2 : Hid (Bk w2 (w.heap.size + 1) 27 (hs.set j (.slice A2 i c2)).toArray) := Lib.hid (HBO1.out.grown hg2 (fun e => by have := hne _ e.symm; have := HLO.out; omega))
                have HBp2 : Hid (Bk w2 w.heap.size 25 p.cells) := Lib.hid (HBp1.out.grown hg2 (fun e => by have := hne _ e.symm; have := HLO.out; omega))
                have HGJ2 : Hid (wj.grownBy w2 (some (w.heap.size + 1))) := Lib.hid ⟨hg2.os.trans HGJ1.out.os, hg2.tape.trans HGJ1.out.tape, hg2.output.trans HGJ1.out.output, Nat.le_trans HGJ1.out.size hg2.size, fun k hk hkn => (hg2.block k (Nat.lt_of_lt_of_le hk HGJ1.out.size) (fun e => by have := hne _ e.symm; omega)).trans (HGJ1.out.block k hk hkn)⟩
                have co2 : w2.cell? ⟨w.heap.size + 1, j, none⟩ = some (.slice A2 i c2) := by rw [HBO2.out.cell j]; simp [HJH.out]
                have fo2 := HBO2.out.free j
                have HFIN : Hid (Acc encU wj.heap.size 23 (fun g => wj.heap.size ≤ g) (w2.setCell ⟨w.heap.size + 1, j, none⟩ (.slice A3 (i + 1) c3)) (.slice A3 (i + 1) c3) (colI p (l.take (i + 1)) j) ∧ Bk (w2.setCell ⟨w.heap.size + 1, j, none⟩ (.slice A3 (i + 1) c3)) (w.heap.size + 1) 27 (hs.set j (.slice A3 (i + 1) c3)).toArray ∧ wj.grownBy (w2.setCell ⟨w.heap.size + 1, j, none⟩ (.slice A3 (i + 1) c3)) (some (w.heap.size + 1)) ∧ Bk (w2.setCell ⟨w.heap.size + 1, j, none⟩ (.slice A3 (i + 1) c3)) w.heap.size 25 p.cells) := Lib.hid ⟨by
                    rw [HSN.out]
                    exact hacc2.keep (grownBy_set (World.grownBy.refl _ (some (w.heap.size + 1))) j _) (fun g hg e => by injection e with e; have := HLO.out; omega), (HBO2.out.set j _).of_eq (by simp), grownBy_set HGJ2.out j _, HBp2.out.far (by simp) _⟩
                clear hacc2 hg2 hm2 hne co lo cx
                go_wp2_with fail
                go_roundg q
                case measure => omega
                case rel => exact ⟨i + 1, _, by omega, by go_num, HFIN⟩
    | succ m =>
      have hjn : (j : Int) < (l.length : Int) := by omega
      have hjN : j < l.length := by omega
      have hg : w.grownBy wr none := by rw [HX.out]; exact HG0.out
      obtain ⟨g, o, c', u, e, _, _, hcu, hsu⟩ := (H.out.kept hg).atS hjN
      injection e with e1 e2 e3
      subst e1 e3
      obtain ⟨A1, c1, e1, _, _⟩ := hsu.form
      subst e1
      have HSN : Hid (wideI (l.take (j + 1)) = max n l[j].length) := Lib.hid (by rw [wide_snoc l j hjN, HN.out])
      have hnb : n ≤ 100000 := by rw [HN.out]; exact wide_le _ _ (fun c hc => HB2.out c (List.mem_of_mem_take hc))
      have hlb : l[j].length ≤ 100000 := HB2.out _ (List.getElem_mem hjN)
      clear hg hsu e2 HN
      generalize l[j].length = n1 at *
      go_wp2_with fail
      all_goals
        go_roundg m
        case measure => omega
        case rel => exact ⟨j + 1, max n n1, by omega, by go_num, by congr 1; omega, Lib.hid HSN.out.symm, HX⟩
end Go.Proofs.Ytmbbahlenanpfaa
