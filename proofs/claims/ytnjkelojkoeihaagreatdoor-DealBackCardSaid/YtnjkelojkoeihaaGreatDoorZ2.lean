/- pedersen.Share, turned, RowComs, ColComs, Fits; slices.Equal of numbers; walked. pedersen.pairs' contracts and pedersen.Coms. pedersen.Coms, walked: a range over a function within a range over a function. pedersen.Matrix, walked. pedersen.Formed: slices.ContainsFunc over numbers and over lists of numbers. pedersen.secrets, all, Formed. A region that draws its order, walked ONCE, in the order of its text: each operation (but for a tail that waits for all of them) leaves what lay there as it was, and tells a value of which something is known in every world grown from the region's first. A region that draws its order and writes while it goes on: walked once, when each operation tells one and the same value, and where the worlds stand is told by which operations were carried out. Sums, differences, products modulo a number, and inverses, as calls that leave what was there as it was. The law for drawn regions, in a walk that meets rounds (the wide fence): the tail may call yield. A range over a function whose body never leaves, where what is handed over lies in memory that the iterator has just laid: the body is told what is known of it in the world in which it is called. -/
import Derived.Test.YtnjkelojkoeihaaGreatDoorZ1
import Derived.Deep.OwnRows
import Derived.IntWalk
import Derived.BigQuiet
import Derived.Orders
import Derived.StillTail
import Derived.OrdersIn
import Derived.TacticsIn
import Derived.RangeFuncNested
namespace Go.Proofs.YtnjkelojkoeihaaGreatDoor
open Go.RowKit

theorem atGo_U64 (p : Par) (i : Int) : ∀ (l : List Int) (x e : Int), U64 x → U64 (atGo p i l x e)
  | [], _, _, h => h
  | _ :: l, _, _, _ => atGo_U64 p i l _ _ (timesI_U64 _ _)
theorem atI_U64 (p : Par) (l : List Int) (i : Int) : U64 (atI p l i) := atGo_U64 p i l _ _ (timesI_U64 _ _)
def shareI (p : Par) (coms : List (List Int)) (i : Int) : List Int := coms.map fun l => atI p l i
def wideI (l : List (List Int)) : Nat := l.foldl (fun n c => max n c.length) 0
def colI (p : Par) (l : List (List Int)) (j : Nat) : List Int := l.map fun c => c[j]?.getD (timesI p.P [])
def turnedI (p : Par) (l : List (List Int)) : List (List Int) := (List.range (wideI l)).map (colI p l)
def rowComsI (p : Par) (m : List (List (List Int))) (x : Int) : List (List Int) := m.map fun l => shareI p (turnedI p l) x
def colComsI (p : Par) (m : List (List (List Int))) (y : Int) : List (List Int) := m.map fun l => shareI p l y
theorem map_take_snoc' {α β : Type} (f : α → β) (l : List α) (j : Nat) (h : j < l.length) : (l.take (j + 1)).map f = (l.take j).map f ++ [f l[j]] := by
  rw [List.take_succ_eq_append_getElem h, List.map_append]
  rfl

set_option maxRecDepth 100000 in
set_option maxHeartbeats 400000 in
theorem share_any (p : Par) (v : Value) (ls : List (List Int)) (i : Int) (X : Nat → Prop) (w : World) (h : Sl (encS encU) X w v ls) (hi : U64 i) (hb : ls.length ≤ 100000) :
    Calls Tryz.prog 17 #[p.v, v, .int .u64 i] w (Gives encU (fun g => w.heap.size ≤ g) w (shareI p ls i)) := by
  have H := Lib.hid h
  have HI := Lib.hid hi
  obtain ⟨A, c, rfl, hc1, hc2⟩ := h.form
  have HST : Hid (Acc encU w.heap.size 22 (fun g => w.heap.size ≤ g) (w.alloc (Obj.cells p.cells 24)) (.slice none 0 0) ((ls.take 0).map fun l => atI p l i) ∧ w.grownBy (w.alloc (Obj.cells p.cells 24)) none ∧ Bk (w.alloc (Obj.cells p.cells 24)) w.heap.size 24 p.cells) := Lib.hid ⟨Acc.nil _ _ _ _ _, World.grownBy_alloc w _ none, Bk.new w _ _⟩
  clear h hi
  go_enter Tryz.func17, Tryz.ntmps17
  go_wp2_with fail
  go_loopg [7, 12] ls.length (fun g s7 s12 wx => ∃ j : Nat, j + g = ls.length ∧ s12 = .int .i64 j ∧ Hid (Acc encU w.heap.size 22 (fun g => w.heap.size ≤ g) wx s7 ((ls.take j).map fun l => atI p l i) ∧ w.grownBy wx none ∧ Bk wx w.heap.size 24 p.cells))
  case atStart => exact ⟨0, by omega, rfl, HST⟩
  case round =>
    obtain ⟨j, hj, rfl, HX⟩ := hrel
    cases gk with
    | zero =>
      obtain rfl : j = ls.length := by omega
      have HR : Hid (Sl encU (fun g => w.heap.size ≤ g) wr u7 (shareI p ls i) ∧ w.grownBy wr none) := Lib.hid ⟨by have := HX.out.1.sl; rwa [List.take_length] at this, HX.out.2.1⟩
      clear HX HST
      go_wp2
      go_ret
      exact ⟨_, rfl, HR.out.1, HR.out.2⟩
    | succ m =>
      have hjn : (j : Int) < (ls.length : Int) := by omega
      have hjN : j < ls.length := by omega
      obtain ⟨hacc, hg, hbp⟩ := HX.out
      obtain ⟨g, o, c', u, e, _, _, hcu, hsu⟩ := (H.out.kept hg).atS hjN
      injection e with e1 e2 e3
      subst e1 e3
      obtain ⟨A1, c1, e1, _, _⟩ := hsu.form
      subst e1
      have HSN := Lib.hid (map_take_snoc' (fun l => atI p l i) ls j hjN)
      have HF := Lib.hid (at_all p _ ls[j] i X wr hsu HI.out)
      have HU := Lib.hid (atI_U64 p ls[j] i)
      have HAC := Lib.hid hacc
      have HG := Lib.hid hg
      have HBp := Lib.hid hbp
      have hp := hbp.prule
      have HLB : Hid ((((ls.take j).map fun l => atI p l i).length + 1) * 8 ≤ 140737488355328) := Lib.hid (by simp; omega)
      clear hacc hg hbp hsu e2 HX HST
      generalize hy : ls[j] = y at HSN HF HU hcu
      clear hy
      generalize y.length = n1 at *
      go_wp2_with fail
      refine HF.out.mono ?_
      rintro e' w1 ⟨rfl, hg1⟩
      have HG2 := Lib.hid (HG.out.trans hg1)
      have HA1 := Lib.hid (HAC.out.kept hg1)
      have HBp1 := Lib.hid (HBp.out.grown hg1 (by simp))
      clear hg1 hp
      go_wp2_with (at_builtin; refine wpList_pushG rfl (.tmp 16) (.tmp 21) rfl (E := encU) el_u64 HG2.out HA1.out (fun _ h => h) ⟨rfl, HU.out⟩ HLB.out rfl rfl ?_)
      intro v2 w2 hacc2 hg2 hgo
      have HFIN : Hid (Acc encU w.heap.size 22 (fun g => w.heap.size ≤ g) w2 v2 ((ls.take (j + 1)).map fun l => atI p l i) ∧ w.grownBy w2 none ∧ Bk w2 w.heap.size 24 p.cells) := Lib.hid ⟨by rw [HSN.out]; simpa using hacc2, hg2, HBp1.out.grown hgo (fun e => HA1.out.ne_bk HBp1.out (by decide) e.symm)⟩
      clear hacc2 hg2 hgo
      go_wp2_with fail
      go_roundg m
      case measure => omega
      case rel => exact ⟨j + 1, by omega, by go_num, HFIN⟩
/-- What a call told lies beyond what was there. -/
theorem Sl.fresh {α : Type} {E : Enc α} {w0 w w' : World} {v u : Value} {xs : List α} {base : Nat} {e : TypeId} {β : Type} {F : Enc β} {Y : Nat → Prop} {ys : List β} (h : Sl E (fun g => w.heap.size ≤ g) w' v xs) (hg : w0.grownBy w none) (ha : Acc F base e Y w u ys) :
    Sl E (fun g => w0.heap.size ≤ g ∧ some g ≠ u.ownBlock) w' v xs :=
  h.more fun g _ h => ⟨Nat.le_trans hg.size h, fun e => by have := (ha.lt g e.symm).2; omega⟩
set_option maxRecDepth 100000 in
set_option maxHeartbeats 400000 in
theorem colComs_any (p : Par) (v : Value) (m : List (List (List Int))) (y : Int) (X : Nat → Prop) (w : World) (h : Sl (encS (encS encU)) X w v m) (hy : U64 y) (hb : m.length ≤ 100000) (hb2 : ∀ l ∈ m, l.length ≤ 100000) :
    Calls Tryz.prog 56 #[p.v, v, .int .u64 y] w (Gives (encS encU) (fun g => w.heap.size ≤ g) w (colComsI p m y)) := by
  have H := Lib.hid h
  have HI := Lib.hid hy
  have HB2 := Lib.hid hb2
  obtain ⟨A, c, rfl, hc1, hc2⟩ := h.form
  have HST : Hid (Acc (encS encU) w.heap.size 25 (fun g => w.heap.size ≤ g) (w.alloc (Obj.cells p.cells 24)) (.slice none 0 0) ((m.take 0).map fun l => shareI p l y) ∧ w.grownBy (w.alloc (Obj.cells p.cells 24)) none ∧ Bk (w.alloc (Obj.cells p.cells 24)) w.heap.size 24 p.cells) := Lib.hid ⟨Acc.nil _ _ _ _ _, World.grownBy_alloc w _ none, Bk.new w _ _⟩
  clear h hy hb2
  go_enter Tryz.func56, Tryz.ntmps56
  go_wp2_with fail
  go_loopg [7, 12] m.length (fun g s7 s12 wx => ∃ j : Nat, j + g = m.length ∧ s12 = .int .i64 j ∧ Hid (Acc (encS encU) w.heap.size 25 (fun g => w.heap.size ≤ g) wx s7 ((m.take j).map fun l => shareI p l y) ∧ w.grownBy wx none ∧ Bk wx w.heap.size 24 p.cells))
  case atStart => exact ⟨0, by omega, rfl, HST⟩
  case round =>
    obtain ⟨j, hj, rfl, HX⟩ := hrel
    cases gk with
    | zero =>
      obtain rfl : j = m.length := by omega
      have HR : Hid (Sl (encS encU) (fun g => w.heap.size ≤ g) wr u7 (colComsI p m y) ∧ w.grownBy wr none) := Lib.hid ⟨by have := HX.out.1.sl; rwa [List.take_length] at this, HX.out.2.1⟩
      clear HX HST
      go_wp2
      go_ret
      exact ⟨_, rfl, HR.out.1, HR.out.2⟩
    | succ n =>
      have hjn : (j : Int) < (m.length : Int) := by omega
      have hjN : j < m.length := by omega
      obtain ⟨hacc, hg, hbp⟩ := HX.out
      obtain ⟨g, o, c', u, e, _, _, hcu, hsu⟩ := (H.out.kept hg).atS hjN
      injection e with e1 e2 e3
      subst e1 e3
      obtain ⟨A1, c1, e1, _, _⟩ := hsu.form
      subst e1
      have HSN := Lib.hid (map_take_snoc' (fun l => shareI p l y) m j hjN)
      have HF := Lib.hid (share_any p _ m[j] y X wr hsu HI.out (HB2.out _ (List.getElem_mem hjN)))
      have HSL : Hid ((shareI p m[j] y).length = m[j].length) := Lib.hid (by simp [shareI])
      have HAC := Lib.hid hacc
      have HG := Lib.hid hg
      have HBp := Lib.hid hbp
      have hp := hbp.prule
      have HLB : Hid ((((m.take j).map fun l => shareI p l y).length + 1) * 24 ≤ 140737488355328) := Lib.hid (by simp; omega)
      clear hacc hg hbp hsu e2 HX HST
      generalize hy : m[j] = z at HSN HF hcu HSL
      clear hy
      generalize z.length = n1 at *
      go_wp2_with fail
      refine HF.out.mono ?_
      rintro e' w1 ⟨v1, rfl, hs1, hg1⟩
      obtain ⟨A2, c2, e2, _, _⟩ := hs1.form
      rw [HSL.out] at e2
      subst e2
      have HG2 := Lib.hid (HG.out.trans hg1)
      have HA1 := Lib.hid (HAC.out.kept hg1)
      have HBp1 := Lib.hid (HBp.out.grown hg1 (by simp))
      have HREP : Hid (Enc.rep (encS encU) (fun g => w.heap.size ≤ g ∧ some g ≠ u7.ownBlock) w1 [.slice A2 n1 c2] (shareI p z y)) := Lib.hid ⟨_, rfl, hs1.fresh HG.out HAC.out⟩
      clear hg1 hp hs1
      go_wp2_with (at_builtin; refine wpList_pushG rfl (.tmp 16) (.tmp 21) rfl (E := encS encU) el_nums HG2.out HA1.out (fun _ h => h) HREP.out HLB.out rfl rfl ?_)
      intro v2 w2 hacc2 hg2 hgo
      have HFIN : Hid (Acc (encS encU) w.heap.size 25 (fun g => w.heap.size ≤ g) w2 v2 ((m.take (j + 1)).map fun l => shareI p l y) ∧ w.grownBy w2 none ∧ Bk w2 w.heap.size 24 p.cells) := Lib.hid ⟨by rw [HSN.out]; simpa using hacc2, hg2, HBp1.out.grown hgo (fun e => HA1.out.ne_bk HBp1.out (by decide) e.symm)⟩
      clear hacc2 hg2 hgo
      go_wp2_with fail
      go_roundg n
      case measure => omega
      case rel => exact ⟨j + 1, by omega, by go_num, HFIN⟩
theorem flatten_singles : ∀ (hs : List Value), (hs.map fun v => [v]).flatten = hs
  | [] => rfl
  | a :: l => by simpa using flatten_singles l
theorem wide_le (l : List (List Int)) (B : Nat) (h : ∀ c ∈ l, c.length ≤ B) : wideI l ≤ B := by
  have key : ∀ (l : List (List Int)) (n : Nat), n ≤ B → (∀ c ∈ l, c.length ≤ B) → l.foldl (fun n c => max n c.length) n ≤ B := by
    intro l
    induction l with
    | nil => intro n hn _; exact hn
    | cons c l ih => intro n hn h; exact ih _ (Nat.max_le.2 ⟨hn, h c (by simp)⟩) (fun d hd => h d (by simp [hd]))
  exact key l 0 (Nat.zero_le _) h
theorem wide_snoc (l : List (List Int)) (j : Nat) (h : j < l.length) : wideI (l.take (j + 1)) = max (wideI (l.take j)) l[j].length := by
  unfold wideI
  rw [List.take_succ_eq_append_getElem h, List.foldl_append]
  rfl
theorem colI_snoc (p : Par) (l : List (List Int)) (i j : Nat) (h : i < l.length) : colI p (l.take (i + 1)) j = colI p (l.take i) j ++ [l[i][j]?.getD (timesI p.P [])] := map_take_snoc' _ l i h
theorem colI_U64 (p : Par) (c : List Int) (j : Nat) (X : Nat → Prop) (w : World) (v : Value) (h : Sl encU X w v c) : U64 (c[j]?.getD (timesI p.P [])) := by
  by_cases hj : j < c.length
  · rw [List.getElem?_eq_getElem hj]
    obtain ⟨_, _, _, _, _, _, _, u⟩ := h.atU hj
    exact u
  · rw [List.getElem?_eq_none (by omega)]
    exact timesI_U64 _ _
set_option maxRecDepth 100000 in
set_option maxHeartbeats 1000000 in
theorem turned_any (p : Par) (v : Value) (l : List (List Int)) (X : Nat → Prop) (w : World) (h : Sl (encS encU) X w v l) (hb : l.length ≤ 100000) (hb2 : ∀ c ∈ l, c.length ≤ 100000) :
    Calls Tryz.prog 100 #[p.v, v] w (Gives (encS encU) (fun g => w.heap.size ≤ g) w (turnedI p l)) := by
  have H := Lib.hid h
  have HB2 := Lib.hid hb2
  obtain ⟨A, c, rfl, hc1, hc2⟩ := h.form
  have HB0 : Hid (Bk (w.alloc (Obj.cells p.cells 24)) w.heap.size 24 p.cells) := Lib.hid (Bk.new w _ _)
  have HG0 : Hid (w.grownBy (w.alloc (Obj.cells p.cells 24)) none) := Lib.hid (World.grownBy_alloc w _ none)
  have HWB : Hid (wideI l ≤ 100000) := Lib.hid (wide_le l _ hb2)
  have HW0 : Hid (wideI (l.take 0) = 0) := Lib.hid rfl
  clear h hb2
  go_enter Tryz.func100, Tryz.ntmps100
  go_wp2_with fail
  have HS0 : Hid ((w.alloc (Obj.cells p.cells 24)) = (w.alloc (Obj.cells p.cells 24))) := Lib.hid rfl
  go_loopg [5, 15] l.length (fun g s5 s15 wx => ∃ j n : Nat, j + g = l.length ∧ s15 = .int .i64 j ∧ s5 = .int .i64 n ∧ Hid (n = wideI (l.take j)) ∧ Hid (wx = (w.alloc (Obj.cells p.cells 24))))
  case atStart => exact ⟨0, 0, by omega, rfl, rfl, Lib.hid HW0.out.symm, HS0⟩
  case round =>
    obtain ⟨j, n, hj, rfl, rfl, HN, HX⟩ := hrel
    cases gk with
    | zero =>
      obtain rfl : j = l.length := by omega
      have HNW : Hid (n = wideI l) := Lib.hid (by have := HN.out; rwa [List.take_length] at this)
      obtain rfl : wr = (w.alloc (Obj.cells p.cells 24)) := HX.out
      have hn5 : n ≤ 100000 := by rw [HNW.out]; exact HWB.out
      have hmk := run_make_row' (P := Tryz.prog) 34 25 (.slice none 0 0) 24 Tryz.underlying34 info_nums rfl .i64 .i64 n (by omega) (by omega)
      have HBO : Hid (Bk ((w.alloc (Obj.cells p.cells 24)).alloc (.cells (madeCells #[.slice none 0 0] n) 25)) (w.heap.size + 1) 25 (List.replicate n (.slice none 0 0)).toArray) := Lib.hid (by
        have := Bk.new (w.alloc (Obj.cells p.cells 24)) 25 (madeCells #[.slice none 0 0] n)
        rw [World.size_alloc] at this
        exact this.of_eq (Array.toList_inj.1 (by rw [toList_madeCells_one])))
      have HST : Hid (Bk ((w.alloc (Obj.cells p.cells 24)).alloc (.cells (madeCells #[.slice none 0 0] n) 25)) (w.heap.size + 1) 25 (List.replicate n (Value.slice none 0 0)).toArray ∧
          (∀ i (hi : i < (List.replicate n (Value.slice none 0 0)).length), i < 0 → Sl encU (fun g => w.heap.size + 1 < g) ((w.alloc (Obj.cells p.cells 24)).alloc (.cells (madeCells #[.slice none 0 0] n) 25)) (List.replicate n (Value.slice none 0 0))[i] (colI p l i)) ∧
          (∀ i (hi : i < (List.replicate n (Value.slice none 0 0)).length), 0 ≤ i → (List.replicate n (Value.slice none 0 0))[i] = .slice none 0 0) ∧ w.grownBy ((w.alloc (Obj.cells p.cells 24)).alloc (.cells (madeCells #[.slice none 0 0] n) 25)) none ∧
          Bk ((w.alloc (Obj.cells p.cells 24)).alloc (.cells (madeCells #[.slice none 0 0] n) 25)) w.heap.size 24 p.cells) :=
        Lib.hid ⟨HBO.out, fun i hi h => absurd h (Nat.not_lt_zero _), fun i hi _ => by simp, HG0.out.trans (World.grownBy_alloc _ _ none), HB0.out.alloc _⟩
      have HLL : Hid ((List.replicate n (Value.slice none 0 0)).length = n) := Lib.hid (by simp)
      clear HX HS0 HBO HB0
      go_wp2_with fail
      go_loopg [28] n (fun g s28 wx => ∃ (j : Nat) (hs : List Value), j + g = n ∧ s28 = .int .i64 j ∧ Hid (hs.length = n) ∧ Hid (Bk wx (w.heap.size + 1) 25 hs.toArray ∧
          (∀ i (hi : i < hs.length), i < j → Sl encU (fun g => w.heap.size + 1 < g) wx hs[i] (colI p l i)) ∧ (∀ i (hi : i < hs.length), j ≤ i → hs[i] = .slice none 0 0) ∧ w.grownBy wx none ∧ Bk wx w.heap.size 24 p.cells))
      case atStart => exact ⟨0, _, by omega, rfl, HLL, HST⟩
      case round =>
        rename World => wj
        obtain ⟨j, hs, hj, rfl, HLH, HX⟩ := hrel
        cases gk with
        | zero =>
          obtain rfl : j = n := by omega
          have HR : Hid (Sl (encS encU) (fun g => w.heap.size ≤ g) wj (.slice (some ⟨w.heap.size + 1, 0, none⟩) j j) (turnedI p l) ∧ w.grownBy wj none) := Lib.hid (by
            obtain ⟨h1, h2, _, h4, _⟩ := HX.out
            have hTL : (turnedI p l).length = j := by simp [turnedI, HNW.out]
            have := Sl.block (E := encS encU) (X := fun g => w.heap.size ≤ g) (xs := turnedI p l) (c := j) h1 (by omega) (hs.map fun v => [v]) (by rw [List.length_map, HLH.out, hTL]) (fun i hi hi' => ⟨hs[i]'(by rw [HLH.out]; omega), by simp, by
              have hc := (h2 i (by rw [HLH.out]; omega) (by omega)).more (Y := fun g => w.heap.size ≤ g) (fun g _ hg => by omega)
              have he : (turnedI p l)[i] = colI p l i := by simp [turnedI]
              rw [he]
              exact hc⟩) (by
                rw [flatten_singles]) (by rw [hTL]; exact Nat.le_refl _) (by omega)
            rw [hTL] at this
            exact ⟨this, h4⟩)
          clear HX HST HLH
          go_wp2
          go_ret
          exact ⟨_, rfl, HR.out.1, HR.out.2⟩
        | succ m =>
          have hjn : (j : Int) < (n : Int) := by omega
          have hjh : j < hs.length := by rw [HLH.out]; omega
          have hlo : w.heap.size + 1 < wj.heap.size := HX.out.1.lt
          have HIN : Hid (Acc encU wj.heap.size 22 (fun g => wj.heap.size ≤ g) wj (.slice none 0 0) (colI p (l.take 0) j) ∧ Bk wj (w.heap.size + 1) 25 (hs.set j (.slice none 0 0)).toArray ∧ wj.grownBy wj (some (w.heap.size + 1)) ∧ Bk wj w.heap.size 24 p.cells) := Lib.hid ⟨Acc.nil _ _ _ _ _, by
            have := HX.out.2.2.1 j hjh (Nat.le_refl _)
            rw [← this, List.set_getElem_self]
            exact HX.out.1, World.grownBy.refl _ _, HX.out.2.2.2.2⟩
          have HGJ := Lib.hid HX.out.2.2.2.1
          have HLO := Lib.hid hlo
          clear hlo
          go_wp2_with fail
          go_loopg [33] l.length (fun g s33 wx => ∃ (i : Nat) (v : Value), i + g = l.length ∧ s33 = .int .i64 i ∧ Hid (Acc encU wj.heap.size 22 (fun g => wj.heap.size ≤ g) wx v (colI p (l.take i) j) ∧ Bk wx (w.heap.size + 1) 25 (hs.set j v).toArray ∧ wj.grownBy wx (some (w.heap.size + 1)) ∧ Bk wx w.heap.size 24 p.cells))
          case atStart => exact ⟨0, _, by omega, rfl, HIN⟩
          case round =>
            rename World => wi
            obtain ⟨i, v, hi, rfl, HY⟩ := hrel
            cases gk with
            | zero =>
              obtain rfl : i = l.length := by omega
              have HFIN : Hid (Bk wi (w.heap.size + 1) 25 (hs.set j v).toArray ∧ (∀ i (hi : i < (hs.set j v).length), i < j + 1 → Sl encU (fun g => w.heap.size + 1 < g) wi (hs.set j v)[i] (colI p l i)) ∧ (∀ i (hi : i < (hs.set j v).length), j + 1 ≤ i → (hs.set j v)[i] = .slice none 0 0) ∧ w.grownBy wi none ∧ Bk wi w.heap.size 24 p.cells) := Lib.hid (by
                obtain ⟨h1, h2, h3, h4⟩ := HY.out
                obtain ⟨_, k2, k3, k4, _⟩ := HX.out
                rw [List.take_length] at h1
                refine ⟨h2, fun i hi hij => ?_, fun i hi hij => ?_, grown_up k4 h3 (fun g e => by injection e with e; subst e; omega), h4⟩
                · rcases Nat.lt_or_ge i j with hlt | hge
                  · rw [List.getElem_set_ne (by omega)]
                    exact ((k2 i (by simpa using hi) hlt).bounded.keep h3 (fun g hg e => by injection e with e; have := hg.1; omega)).more (fun g _ hg => hg.1)
                  · obtain rfl : i = j := by omega
                    rw [List.getElem_set_self]
                    exact h1.sl.more (fun g _ hg => Nat.lt_of_lt_of_le HLO.out hg)
                · rw [List.getElem_set_ne (by omega)]
                  exact k3 i (by simpa using hi) (by omega))
              have HLH2 : Hid ((hs.set j v).length = n) := Lib.hid (by rw [List.length_set]; exact HLH.out)
              clear HX HY HST HIN
              go_wp2_with fail
              go_roundg m
              case measure => omega
              case rel => exact ⟨j + 1, _, by omega, by go_num, HLH2, HFIN⟩
            | succ q =>
              have hin : (i : Int) < (l.length : Int) := by omega
              have hiN : i < l.length := by omega
              obtain ⟨hacc, hbo, hgj, hbp⟩ := HY.out
              have hgw : w.grownBy wi none := grown_up HGJ.out hgj (fun g e => by injection e with e; subst e; omega)
              obtain ⟨g, o, c', u, e, _, _, hcu, hsu⟩ := (H.out.kept hgw).atS hiN
              injection e with e1 e2 e3
              subst e1 e3
              obtain ⟨A1, c1, e1, _, _⟩ := hsu.form
              subst e1
              have HCV := Lib.hid hsu
              have HSN := Lib.hid (colI_snoc p l i j hiN)
              have HUX := Lib.hid (colI_U64 p l[i] j _ _ _ hsu)
              obtain ⟨A2, c2, e4, _, _⟩ := hacc.sl.form
              have hcl : (colI p (l.take i) j).length = i := by simp [colI]; omega
              rw [hcl] at e4
              subst e4
              have HAC := Lib.hid hacc
              have HBO := Lib.hid hbo
              have HGW := Lib.hid hgw
              have HGI := Lib.hid hgj
              have HBp := Lib.hid hbp
              have hp := hbp.prule
              have hlc1 : l[i].length ≤ 100000 := HB2.out _ (List.getElem_mem hiN)
              have HJH := Lib.hid hjh
              have HLB : Hid (((colI p (l.take i) j).length + 1) * 8 ≤ 140737488355328) := Lib.hid (by rw [hcl]; omega)
              clear hacc hbo hgj hbp hgw hsu e2 hcl HY HIN HST hjh
              obtain ⟨L, hL⟩ : ∃ L, L = l[i] := ⟨_, rfl⟩
              rw [← hL] at hcu hlc1
              rw [← hL] at HCV HSN HUX
              clear hL
              have hjL0 : (0 : Int) ≤ (j : Int) := by omega
              by_cases hjL : j < L.length
              · have hjLi : (j : Int) < (L.length : Int) := by omega
                rw [show L[j]?.getD (timesI p.P []) = L[j] by rw [List.getElem?_eq_getElem hjL]; rfl] at HSN HUX
                go_wp2_with fail
                refine (times_nil p _).mono ?_
                rintro e' w1 ⟨rfl, hg1⟩
                have HG1 : Hid (wi.grownBy w1 none) := Lib.hid hg1
                have HA1 := Lib.hid (HAC.out.kept hg1)
                have HBO1 := Lib.hid (HBO.out.grown hg1 (by simp))
                have HBp1 := Lib.hid (HBp.out.grown hg1 (by simp))
                have HGJ1 : Hid (wj.grownBy w1 (some (w.heap.size + 1))) := Lib.hid (HGI.out.trans (grown_weak hg1))
                have co : w1.cell? ⟨w.heap.size + 1, j, none⟩ = some (.slice A2 i c2) := by rw [HBO1.out.cell j]; simp [HJH.out]
                have lo := HBO1.out.lt
                have cx := (HCV.out.kept hg1)
                obtain ⟨gq, oq, cq, eq1, _, _, cq0, _⟩ := cx.atU hjL
                injection eq1 with eq1
                subst eq1
                clear hg1 hp
                go_wp2_with (at_builtin; refine wpList_push rfl (.tmp 52) (.tmp 54) rfl (E := encU) (X := fun g => wj.heap.size ≤ g) el_u64 HA1.out rfl rfl ⟨rfl, HUX.out⟩ HLB.out HGJ1.out.size (fun g h => Nat.le_trans HGJ1.out.size h) ?_)
                intro v2 w2 hacc2 hg2 hm2
                have hne : ∀ g, (Value.slice A2 i c2).ownBlock = some g → wj.heap.size ≤ g := fun g e => (HA1.out.lt g e).1
                obtain ⟨A3, c3, e5, _, _⟩ := hacc2.sl.form
                have hl3 : (colI p (l.take i) j ++ [L[j]]).length = i + 1 := by simp [colI]; omega
                rw [hl3] at e5
                subst e5
                have HBO2 : Hid (Bk w2 (w.heap.size + 1) 25 (hs.set j (.slice A2 i c2)).toArray) := Lib.hid (HBO1.out.grown hg2 (fun e => by have := hne _ e.symm; have := HLO.out; omega))
                have HBp2 : Hid (Bk w2 w.heap.size 24 p.cells) := Lib.hid (HBp1.out.grown hg2 (fun e => by have := hne _ e.symm; have := HLO.out; omega))
                have HGJ2 : Hid (wj.grownBy w2 (some (w.heap.size + 1))) := Lib.hid ⟨hg2.os.trans HGJ1.out.os, hg2.tape.trans HGJ1.out.tape, hg2.output.trans HGJ1.out.output, Nat.le_trans HGJ1.out.size hg2.size, fun k hk hkn => (hg2.block k (Nat.lt_of_lt_of_le hk HGJ1.out.size) (fun e => by have := hne _ e.symm; omega)).trans (HGJ1.out.block k hk hkn)⟩
                have co2 : w2.cell? ⟨w.heap.size + 1, j, none⟩ = some (.slice A2 i c2) := by rw [HBO2.out.cell j]; simp [HJH.out]
                have fo2 := HBO2.out.free j
                have HFIN : Hid (Acc encU wj.heap.size 22 (fun g => wj.heap.size ≤ g) (w2.setCell ⟨w.heap.size + 1, j, none⟩ (.slice A3 (i + 1) c3)) (.slice A3 (i + 1) c3) (colI p (l.take (i + 1)) j) ∧ Bk (w2.setCell ⟨w.heap.size + 1, j, none⟩ (.slice A3 (i + 1) c3)) (w.heap.size + 1) 25 (hs.set j (.slice A3 (i + 1) c3)).toArray ∧ wj.grownBy (w2.setCell ⟨w.heap.size + 1, j, none⟩ (.slice A3 (i + 1) c3)) (some (w.heap.size + 1)) ∧ Bk (w2.setCell ⟨w.heap.size + 1, j, none⟩ (.slice A3 (i + 1) c3)) w.heap.size 24 p.cells) := Lib.hid ⟨by
                    rw [HSN.out]
                    exact hacc2.keep (grownBy_set (World.grownBy.refl _ (some (w.heap.size + 1))) j _) (fun g hg e => by injection e with e; have := HLO.out; omega), (HBO2.out.set j _).of_eq (by simp), grownBy_set HGJ2.out j _, HBp2.out.far (by simp) _⟩
                clear hacc2 hg2 hm2 hne co lo cx
                go_wp2_with fail
                go_roundg q
                case measure => omega
                case rel => exact ⟨i + 1, _, by omega, by go_num, HFIN⟩
              · have hjLi : ¬ (j : Int) < (L.length : Int) := by omega
                rw [show L[j]?.getD (timesI p.P []) = timesI p.P [] by rw [List.getElem?_eq_none (by omega)]; rfl] at HSN HUX
                go_wp2_with fail
                refine (times_nil p _).mono ?_
                rintro e' w1 ⟨rfl, hg1⟩
                have HG1 : Hid (wi.grownBy w1 none) := Lib.hid hg1
                have HA1 := Lib.hid (HAC.out.kept hg1)
                have HBO1 := Lib.hid (HBO.out.grown hg1 (by simp))
                have HBp1 := Lib.hid (HBp.out.grown hg1 (by simp))
                have HGJ1 : Hid (wj.grownBy w1 (some (w.heap.size + 1))) := Lib.hid (HGI.out.trans (grown_weak hg1))
                have co : w1.cell? ⟨w.heap.size + 1, j, none⟩ = some (.slice A2 i c2) := by rw [HBO1.out.cell j]; simp [HJH.out]
                have lo := HBO1.out.lt
                have cx := (HCV.out.kept hg1)
                clear hg1 hp
                go_wp2_with (at_builtin; refine wpList_push rfl (.tmp 52) (.tmp 54) rfl (E := encU) (X := fun g => wj.heap.size ≤ g) el_u64 HA1.out rfl rfl ⟨rfl, HUX.out⟩ HLB.out HGJ1.out.size (fun g h => Nat.le_trans HGJ1.out.size h) ?_)
                intro v2 w2 hacc2 hg2 hm2
                have hne : ∀ g, (Value.slice A2 i c2).ownBlock = some g → wj.heap.size ≤ g := fun g e => (HA1.out.lt g e).1
                obtain ⟨A3, c3, e5, _, _⟩ := hacc2.sl.form
                have hl3 : (colI p (l.take i) j ++ [timesI p.P []]).length = i + 1 := by simp [colI]; omega
                rw [hl3] at e5
                subst e5
                have HBO2 : Hid (Bk w2 (w.heap.size + 1) 25 (hs.set j (.slice A2 i c2)).toArray) := Lib.hid (HBO1.out.grown hg2 (fun e => by have := hne _ e.symm; have := HLO.out; omega))
                have HBp2 : Hid (Bk w2 w.heap.size 24 p.cells) := Lib.hid (HBp1.out.grown hg2 (fun e => by have := hne _ e.symm; have := HLO.out; omega))
                have HGJ2 : Hid (wj.grownBy w2 (some (w.heap.size + 1))) := Lib.hid ⟨hg2.os.trans HGJ1.out.os, hg2.tape.trans HGJ1.out.tape, hg2.output.trans HGJ1.out.output, Nat.le_trans HGJ1.out.size hg2.size, fun k hk hkn => (hg2.block k (Nat.lt_of_lt_of_le hk HGJ1.out.size) (fun e => by have := hne _ e.symm; omega)).trans (HGJ1.out.block k hk hkn)⟩
                have co2 : w2.cell? ⟨w.heap.size + 1, j, none⟩ = some (.slice A2 i c2) := by rw [HBO2.out.cell j]; simp [HJH.out]
                have fo2 := HBO2.out.free j
                have HFIN : Hid (Acc encU wj.heap.size 22 (fun g => wj.heap.size ≤ g) (w2.setCell ⟨w.heap.size + 1, j, none⟩ (.slice A3 (i + 1) c3)) (.slice A3 (i + 1) c3) (colI p (l.take (i + 1)) j) ∧ Bk (w2.setCell ⟨w.heap.size + 1, j, none⟩ (.slice A3 (i + 1) c3)) (w.heap.size + 1) 25 (hs.set j (.slice A3 (i + 1) c3)).toArray ∧ wj.grownBy (w2.setCell ⟨w.heap.size + 1, j, none⟩ (.slice A3 (i + 1) c3)) (some (w.heap.size + 1)) ∧ Bk (w2.setCell ⟨w.heap.size + 1, j, none⟩ (.slice A3 (i + 1) c3)) w.heap.size 24 p.cells) := Lib.hid ⟨by
                    rw [HSN.out]
                    exact hacc2.keep (grownBy_set (World.grownBy.refl _ (some (w.heap.size + 1))) j _) (fun g hg e => by injection e with e; have := HLO.out; omega), (HBO2.out.set j _).of_eq (by simp), grownBy_set HGJ2.out j _, HBp2.out.far (by simp) _⟩
                clear hacc2 hg2 hm2 hne co lo cx
                go_wp2_with fail
                go_roundg q
                case measure => omega
                case rel => exact ⟨i + 1, _, by omega, by go_num, HFIN⟩
    | succ m =>
      have hjn : (j : Int) < (l.length : Int) := by omega
      have hjN : j < l.length := by omega
      have hg : w.grownBy wr none := by rw [HX.out]; exact HG0.out
      obtain ⟨g, o, c', u, e, _, _, hcu, hsu⟩ := (H.out.kept hg).atS hjN
      injection e with e1 e2 e3
      subst e1 e3
      obtain ⟨A1, c1, e1, _, _⟩ := hsu.form
      subst e1
      have HSN : Hid (wideI (l.take (j + 1)) = max n l[j].length) := Lib.hid (by rw [wide_snoc l j hjN, HN.out])
      have hnb : n ≤ 100000 := by rw [HN.out]; exact wide_le _ _ (fun c hc => HB2.out c (List.mem_of_mem_take hc))
      have hlb : l[j].length ≤ 100000 := HB2.out _ (List.getElem_mem hjN)
      clear hg hsu e2 HN
      generalize l[j].length = n1 at *
      go_wp2_with fail
      all_goals
        go_roundg m
        case measure => omega
        case rel => exact ⟨j + 1, max n n1, by omega, by go_num, by congr 1; omega, Lib.hid HSN.out.symm, HX⟩
end Go.Proofs.YtnjkelojkoeihaaGreatDoor

namespace Go.Proofs.YtnjkelojkoeihaaGreatDoor
open Go Go.RowKit Go.Shelf

attribute [local go_sem] Oper.semAt_some
theorem pairsU_any (A B : Option Addr) (m1 c1 m2 c2 : Nat) (w : World) :
    Calls Tryz.prog 115 #[.slice A m1 c1, .slice B m2 c2] w fun e w' => e = .returned (.func (.func 127) #[] #[.pointer (some ⟨w.heap.size, 0, none⟩), .pointer (some ⟨w.heap.size + 1, 0, none⟩)]) ∧ w' = (w.alloc (.cells #[.slice A m1 c1] 25)).alloc (.cells #[.slice B m2 c2] 25) := by
  go_enter Tryz.func115, Tryz.ntmps115
  go_wp2
  go_ret
  exact ⟨rfl, rfl⟩
theorem pairsS_any (A B : Option Addr) (m1 c1 m2 c2 : Nat) (w : World) :
    Calls Tryz.prog 114 #[.slice A m1 c1, .slice B m2 c2] w fun e w' => e = .returned (.func (.func 125) #[] #[.pointer (some ⟨w.heap.size, 0, none⟩), .pointer (some ⟨w.heap.size + 1, 0, none⟩)]) ∧ w' = (w.alloc (.cells #[.slice A m1 c1] 34)).alloc (.cells #[.slice B m2 c2] 34) := by
  go_enter Tryz.func114, Tryz.ntmps114
  go_wp2
  go_ret
  exact ⟨rfl, rfl⟩
theorem pairsM_any (A B : Option Addr) (m1 c1 m2 c2 : Nat) (w : World) :
    Calls Tryz.prog 116 #[.slice A m1 c1, .slice B m2 c2] w fun e w' => e = .returned (.func (.func 129) #[] #[.pointer (some ⟨w.heap.size, 0, none⟩), .pointer (some ⟨w.heap.size + 1, 0, none⟩)]) ∧ w' = (w.alloc (.cells #[.slice A m1 c1] 29)).alloc (.cells #[.slice B m2 c2] 29) := by
  go_enter Tryz.func116, Tryz.ntmps116
  go_wp2
  go_ret
  exact ⟨rfl, rfl⟩
theorem KpAB.b {n₀ Ba Bb : Nat} {w : World} (hn : n₀ ≤ w.heap.size) (ha : Ba < w.heap.size) (hb : Bb < w.heap.size) (W : World) (l : Nat) (o o' : Obj) (hl : w.heap.size ≤ l) (h : W.heap[l]? = some o) (h1 : o.isCells = false) (h2 : o.isWalk = false) : KpAB n₀ Ba Bb W (W.putObj l o') := by
  have hlt := (Array.getElem?_eq_some_iff.1 h).1
  have hg := grownBy_putObj' W l o'
  exact ⟨belowK_b hn W l o o' hl h h1 h2, hg.block _ (by omega) (fun e => by injection e with e; omega), hg.block _ (by omega) (fun e => by injection e with e; omega)⟩
theorem Boxed.bumped {W W' : World} {B : Nat} {t : TypeId} {v : Value} (h : Boxed W B t v) (h' : Boxed W' B t v) : W'.heap[B]? = W.heap[B]? := Eq.trans h' (Eq.symm h)
theorem boxNe {W : World} {B : Nat} {t : TypeId} {v : Value} (h : Boxed W B t v) {row : Option Nat} (hr : ∀ r, row = some r → ∃ o : Obj, W.heap[r]? = some o ∧ o.isCells = false) : some B ≠ row := cell_ne h.cell hr
theorem Acc.keeps {α : Type} {E : Enc α} {base : Nat} {e : TypeId} {X : Nat → Prop} {w w' : World} {v : Value} {xs : List α} (h : Acc E base e X w v xs) (hg : w.grownBy w' v.ownBlock) : KeepsOthers w w' := KeepsOthers.of_grownBy hg fun j o ej hj => by
  obtain ⟨_, css, _, _, h3⟩ := h
  rcases h3.2 with ⟨rfl, _⟩ | ⟨g, cap, cur, rfl, _, hgb, _⟩
  · simp [Value.ownBlock] at ej
  · obtain rfl : g = j := by simpa [Value.ownBlock] using ej
    rw [hgb] at hj
    cases hj
    rfl
theorem keeps_none {w w' : World} (hg : w.grownBy w' none) : KeepsOthers w w' := KeepsOthers.of_grownBy hg (by simp)
section
variable {α : Type} {P : Program} {E : Enc α} {base : Nat} {e : TypeId} {X Y : Nat → Prop} {w : World} {v : Value} {xs : List α} {l0 n : Nat}
theorem wpListIn_push {cs : List Value} {y : α} {t : TypeId} {bytes : Nat} {ops : Array Oper} {rest : List Oper} {o : Oper} {a : Act} {Q : Exit → Act → World → Prop} (hgd : o.guard = none) (s x : Operand)
    (ho : o.op = .call { callee := .builtin .append, args := #[s, x], argTypes := #[t, t] }) (hE : ElemOk P t e E.size bytes) (hacc : Acc E base e X w v xs) (hs : a.eval s = v) (hx : a.eval x = .slice (some ⟨w.heap.size, 0, none⟩) 1 1) (hrep : E.rep (fun g => X g ∧ some g ≠ v.ownBlock) w cs y)
    (hlen : (xs.length + 1) * bytes ≤ 140737488355328) (hb : base ≤ w.heap.size) (hN : ∀ g, w.heap.size ≤ g → X g)
    (h : ∀ v' w', Acc E base e X w' v' (xs ++ [y]) → w.grownBy w' v.ownBlock → Moved w v v' → wpListIn (Fence.wide.inRound l0) n P ops Q rest (a.put o.dst v') w') : wpListIn (Fence.wide.inRound l0) n P ops Q (o :: rest) a (w.alloc (.cells cs.toArray e)) :=
  wpListIn_plain hgd fun K hK => operIn_of_wp (R := fun _ _ => True) (K := K) (K' := K) (by rw [ho]; intro c hc; cases hc) (fun _ _ h => h) (push_core hE hacc hrep hlen hb hN s x ho hs hx fun v' w' h1 h2 h3 => hK _ _ (h v' w' h1 h2 h3))
end
theorem pairsS_stops (n : Nat) (hn : 1 ≤ n) (Ba Bb : Nat) (va vb : Value) (a b : List (List Int)) (X : Nat → Prop) (w₀ w1 : World) (G : List Int → Prop) (hG0 : G []) (hGa : ∀ c ∈ a, G c) (hGb : ∀ c ∈ b, G c) (h01 : Below w₀.heap.size w₀ w1) (hBa : Boxed w1 Ba 34 va) (hBb : Boxed w1 Bb 34 vb) (hA : Sl (encS encU) X w₀ va a) (hB : Sl (encS encU) X w₀ vb b) :
    SeqStopsK Fence.wide n Tryz.prog 125 #[.pointer (some ⟨Ba, 0, none⟩), .pointer (some ⟨Bb, 0, none⟩)] (fun x : SS encU X w₀ G => #[x.1.1.1, x.1.2.1]) (KpAB w₀.heap.size Ba Bb) (fun ys => ys.map SS.lists = zipS a b) (fun _ => True) (zipS a b).length w1 := fun l J Jx W hW hJ _ hY h0 =>
  pairsS_in n hn l Ba Bb va vb a b X w₀ G hG0 hGa hGb J Jx hY W hJ (h01.trans (hW.mono h01.size)) ((hW.5 Ba hBa.lt).trans hBa) ((hW.5 Bb hBb.lt).trans hBb) hA hB h0
theorem pairsU_stops (n : Nat) (hn : 1 ≤ n) (Ba Bb : Nat) (va vb : Value) (a b : List Int) (X : Nat → Prop) (w₀ w1 : World) (h01 : Below w₀.heap.size w₀ w1) (hBa : Boxed w1 Ba 25 va) (hBb : Boxed w1 Bb 25 vb) (hA : Sl encU X w₀ va a) (hB : Sl encU X w₀ vb b) :
    SeqStopsK Fence.wide n Tryz.prog 127 #[.pointer (some ⟨Ba, 0, none⟩), .pointer (some ⟨Bb, 0, none⟩)] (fun x : UU => #[.int .u64 x.1.1, .int .u64 x.1.2]) (KpAB w₀.heap.size Ba Bb) (fun ys => ys.map Subtype.val = zipU a b) (fun _ => True) (zipU a b).length w1 := fun l J Jx W hW hJ _ hY h0 =>
  pairsU_in n hn l Ba Bb va vb a b X J Jx w₀ hY W hJ (h01.trans (hW.mono h01.size)) ((hW.5 Ba hBa.lt).trans hBa) ((hW.5 Bb hBb.lt).trans hBb) hA hB h0
theorem pairsM_stops (n : Nat) (hn : 1 ≤ n) (Ba Bb : Nat) (va vb : Value) (a b : List (List (List Int))) (X : Nat → Prop) (w₀ w1 : World) (G : List (List Int) → Prop) (hG0 : G []) (hGa : ∀ c ∈ a, G c) (hGb : ∀ c ∈ b, G c) (h01 : Below w₀.heap.size w₀ w1) (hBa : Boxed w1 Ba 29 va) (hBb : Boxed w1 Bb 29 vb) (hA : Sl (encS (encS encU)) X w₀ va a) (hB : Sl (encS (encS encU)) X w₀ vb b) :
    SeqStopsK Fence.wide n Tryz.prog 129 #[.pointer (some ⟨Ba, 0, none⟩), .pointer (some ⟨Bb, 0, none⟩)] (fun x : SS (encS encU) X w₀ G => #[x.1.1.1, x.1.2.1]) (KpAB w₀.heap.size Ba Bb) (fun ys => ys.map SS.lists = zipS a b) (fun _ => True) (zipS a b).length w1 := fun l J Jx W hW hJ _ hY h0 =>
  pairsM_in n hn l Ba Bb va vb a b X w₀ G hG0 hGa hGb J Jx hY W hJ (h01.trans (hW.mono h01.size)) ((hW.5 Ba hBa.lt).trans hBa) ((hW.5 Bb hBb.lt).trans hBb) hA hB h0
end Go.Proofs.YtnjkelojkoeihaaGreatDoor

namespace Go.Proofs.YtnjkelojkoeihaaGreatDoor
open Go Go.RowKit Go.Shelf

attribute [local go_sem] Oper.semAt_some
theorem wpIn_round_any {P : Program} {ops : Array Oper} {R : Act → World → Prop} {Q : Exit → Act → World → Prop} {l0 n id : Nat} {a : Act} {w : World} (hm : P.follows .mixedOrders = true) (hdf : noDefer ops = true) (hR : ∀ a w, R a w → Q .normal a w)
    (h : wpAny P .any ops (Only R) ops.size (Array.replicate ops.size false) a w.drew) : (Code.region id ops true).wpIn (Fence.wide.inRound l0) n P Q a w :=
  wpIn_region_any hm (wpAnyIn_of_any (noDefer_spec hdf) hR _ _ _ _ h)
def comI (p : Par) (x : List Int × List Int) : List Int := (zipU x.1 x.2).map (commitI p)
def comsI (p : Par) (f r : List (List Int)) : List (List Int) := (zipS f r).map (comI p)
abbrev small1 (c : List Int) : Prop := c.length ≤ 100000
theorem map_val_commit (p : Par) {ys : List UU} {z : List (Int × Int)} (h : ys.map Subtype.val = z) : ys.map (fun y => commitI p y.1) = z.map (commitI p) := by
  rw [← h, List.map_map]
  rfl
theorem map_lists_com (p : Par) {X : Nat → Prop} {w₀ : World} {G : List Int → Prop} {ys : List (SS encU X w₀ G)} {z : List (List Int × List Int)} (h : ys.map SS.lists = z) : ys.map (fun y => comI p y.lists) = z.map (comI p) := by
  rw [← h, List.map_map]
  rfl
set_option maxRecDepth 100000 in
set_option maxHeartbeats 4000000 in
theorem coms_in (n : Nat) (hn : 6 ≤ n) (p : Par) (vf vr : Value) (f r : List (List Int)) (X : Nat → Prop) (w : World) (hp : p.ok) (hf : Sl (encS encU) X w vf f) (hr : Sl (encS encU) X w vr r) (hb1 : f.length ≤ 100000) (hb2 : r.length ≤ 100000) (hb3 : ∀ c ∈ f, small1 c) (hb4 : ∀ c ∈ r, small1 c) :
    CallsIn Fence.wide n Tryz.prog 82 #[p.v, vf, vr] w (Gives (encS encU) (fun g => w.heap.size ≤ g) w (comsI p f r)) := by
  have h1 : 1 ≤ n := by omega
  have HF := Lib.hid hf
  have HR := Lib.hid hr
  have HP := Lib.hid hp
  obtain ⟨A1, c1, rfl, _, _⟩ := hf.form
  obtain ⟨A2, c2, rfl, _, _⟩ := hr.form
  clear hf hr hp
  have HZL : Hid ((zipS f r).length ≤ 100000) := Lib.hid (by simp [zipS]; omega)
  refine callsIn_of_wp_marks Tryz.func82 rfl trivial ?_ rfl
  simp only [Tryz.ntmps82, List.size_toArray, List.length_cons, List.length_nil, Nat.reduceAdd, Nat.reduceSub, Array.replicate_succ, Array.replicate_zero, List.push_toArray, List.append_toArray, List.nil_append, List.cons_append]
  gi_wp2_with (refine ⟨trivial, ?_⟩; refine (callsIn_wide.2 (pairsS_any _ _ _ _ _ _ _)).mono ?_; rintro e w' ⟨rfl, rfl⟩)
  have hs1 : (w.alloc (.cells p.cells 24)).heap.size = w.heap.size + 1 := by simp
  have hs2 : ((w.alloc (.cells p.cells 24)).alloc (.cells #[.slice none 0 0] 34)).heap.size = w.heap.size + 1 + 1 := by simp
  have hs3 : (((w.alloc (.cells p.cells 24)).alloc (.cells #[.slice none 0 0] 34)).alloc (.cells #[.slice A1 f.length c1] 34)).heap.size = w.heap.size + 1 + 1 + 1 := by simp
  have bP : Bk _ w.heap.size 24 p.cells := (((Bk.new w 24 p.cells).alloc (.cells #[.slice none 0 0] 34)).alloc (.cells #[.slice A1 f.length c1] 34)).alloc (.cells #[.slice A2 r.length c2] 34)
  have bO := ((Boxed.new (w.alloc (.cells p.cells 24)) 34 (.slice none 0 0)).alloc (.cells #[.slice A1 f.length c1] 34)).alloc (.cells #[.slice A2 r.length c2] 34)
  have bA := (Boxed.new ((w.alloc (.cells p.cells 24)).alloc (.cells #[.slice none 0 0] 34)) 34 (.slice A1 f.length c1)).alloc (.cells #[.slice A2 r.length c2] 34)
  have bB := Boxed.new (((w.alloc (.cells p.cells 24)).alloc (.cells #[.slice none 0 0] 34)).alloc (.cells #[.slice A1 f.length c1] 34)) 34 (.slice A2 r.length c2)
  rw [hs1] at bO
  rw [hs2] at bA
  rw [hs3] at bB
  have hB0 : Below w.heap.size w ((((w.alloc (.cells p.cells 24)).alloc (.cells #[.slice none 0 0] 34)).alloc (.cells #[.slice A1 f.length c1] 34)).alloc (.cells #[.slice A2 r.length c2] 34)) := below_grown (((World.grownBy_alloc w _ none).trans (World.grownBy_alloc _ _ none)).trans ((World.grownBy_alloc _ _ none).trans (World.grownBy_alloc _ _ none)))
  have hsz : ((((w.alloc (.cells p.cells 24)).alloc (.cells #[.slice none 0 0] 34)).alloc (.cells #[.slice A1 f.length c1] 34)).alloc (.cells #[.slice A2 r.length c2] 34)).heap.size = w.heap.size + 4 := by simp
  obtain ⟨W0, hW0⟩ : ∃ W0, (((w.alloc (.cells p.cells 24)).alloc (.cells #[.slice none 0 0] 34)).alloc (.cells #[.slice A1 f.length c1] 34)).alloc (.cells #[.slice A2 r.length c2] 34) = W0 := ⟨_, rfl⟩
  rw [hW0] at bP bO bA bB hB0 hsz ⊢
  clear hW0 hs1 hs2 hs3
  have HPG : Hid (∀ c ∈ f, small1 c) := Lib.hid hb3
  refine wpIn_rangeFunc_ownH rfl h1 (gf := 125) (lb := #[.pointer (some ⟨w.heap.size + 1 + 1, 0, none⟩), .pointer (some ⟨w.heap.size + 1 + 1 + 1, 0, none⟩)]) rfl trivial (enters_of Tryz.func125 (by kernel_rfl) rfl)
    (pairsS_stops (n - 1) (by omega) (w.heap.size + 1 + 1) (w.heap.size + 1 + 1 + 1) _ _ f r X w W0 small1 (by simp) hb3 hb4 hB0 bA bB HF.out HR.out) KpAB.trans (KpAB.b (by omega) (by omega) (by omega)) (Below.refl _ _) (fun _ => rfl)
    (fun pre W => (∃ v, Boxed W (w.heap.size + 1) 34 v ∧ Acc (encS encU) (w.heap.size + 4) 25 (fun g => w.heap.size + 4 ≤ g) W v (pre.map fun x => comI p x.lists)) ∧ Bk W w.heap.size 24 p.cells ∧ Below w.heap.size w W ∧ Boxed W (w.heap.size + 1 + 1) 34 (.slice A1 f.length c1) ∧ Boxed W (w.heap.size + 1 + 1 + 1) 34 (.slice A2 r.length c2))
    (fun _ _ _ => False)
    (fun pre X Y row hs hg hrow => by
      obtain ⟨⟨v, hb, ha⟩, hk, hB, hb2, hb3⟩ := hs
      have hr' := fun r e => (hrow r e).2
      exact ⟨⟨v, hb.kept hg (boxNe hb hr'), ha.keepc hg hr'⟩, hk.grown hg (cell_ne (hk.cell 0) hr'), hB.grown hg hB.size (fun k e => by have := (hrow k e).1; omega), hb2.kept hg (boxNe hb2 hr'), hb3.kept hg (boxNe hb3 hr')⟩)
    (fun _ _ _ _ _ hs _ _ => hs)
    ⟨⟨_, bO, Acc.nil _ _ _ _ _⟩, bP, hB0, bA, bB⟩
    (fun x a' _ => a' = { tmps := #[p.v, .slice A1 f.length c1, .slice A2 r.length c2, .pointer (some ⟨w.heap.size, 0, none⟩), undef, undef, .slice none 0 0, .pointer (some ⟨w.heap.size + 1, 0, none⟩), x.1.1.1, x.1.2.1, undef, undef, undef, .slice A1 f.length c1, .slice A2 r.length c2, .func (.func 125) #[] #[.pointer (some ⟨w.heap.size + 1 + 1, 0, none⟩), .pointer (some ⟨w.heap.size + 1 + 1 + 1, 0, none⟩)], x.1.1.1, x.1.2.1, undef, undef, undef, undef, undef, undef, undef, undef, undef, undef, undef, undef, undef, undef, undef, undef, undef, undef], defers := [] })
    (fun _ _ _ _ _ _ hs _ _ => hs)
    ?assign ?body ?done ?stop
  case assign =>
    rintro l pre x W K hi hK
    gi_wp2
    exact hK _ _ (KeepsFrom.refl _ _) (KpAB.refl _ _ _ _) hi rfl
  case body =>
    rintro l pre ⟨⟨⟨v1, l1⟩, ⟨v2, l2⟩⟩, ⟨hv1, hg1⟩, ⟨hv2, hg2⟩⟩ a' W hl ⟨r0, hr0⟩ ⟨⟨v, hbo, hao⟩, hbp, hbl, hba, hbb⟩ rfl hlt
    have k1 : Sl encU X w v1 l1 := hv1
    have k2 : Sl encU X w v2 l2 := hv2
    have k3 : l1.length ≤ 100000 := hg1
    have k4 : l2.length ≤ 100000 := hg2
    have HV1 := Lib.hid k1
    have HV2 := Lib.hid k2
    obtain ⟨D1, d1, rfl, _, _⟩ := k1.form
    obtain ⟨D2, d2, rfl, _, _⟩ := k2.form
    have HSM : Hid ((zipU l1 l2).length ≤ 100000) := Lib.hid (by simp [zipU]; omega)
    have HPL : Hid (pre.length < 100000) := Lib.hid (Nat.lt_of_lt_of_le hlt HZL.out)
    clear k1 k2 k3 k4 hlt
    dsimp only
    gi_wp2_with (refine ⟨trivial, fun _ => by omega, ?_⟩; refine (CallsIn.inRound l (callsIn_wide.2 (pairsU_any _ _ _ _ _ _ _))).mono ?_; rintro e w' ⟨rfl, rfl⟩)
    have hs1 : (W.alloc (.cells #[.slice none 0 0] 25)).heap.size = W.heap.size + 1 := by simp
    have hs2 : ((W.alloc (.cells #[.slice none 0 0] 25)).alloc (.cells #[.slice D1 l1.length d1] 25)).heap.size = W.heap.size + 1 + 1 := by simp
    have bL := ((Boxed.new W 25 (.slice none 0 0)).alloc (.cells #[.slice D1 l1.length d1] 25)).alloc (.cells #[.slice D2 l2.length d2] 25)
    have bC := (Boxed.new (W.alloc (.cells #[.slice none 0 0] 25)) 25 (.slice D1 l1.length d1)).alloc (.cells #[.slice D2 l2.length d2] 25)
    have bD := Boxed.new ((W.alloc (.cells #[.slice none 0 0] 25)).alloc (.cells #[.slice D1 l1.length d1] 25)) 25 (.slice D2 l2.length d2)
    rw [hs1] at bC
    rw [hs2] at bD
    have hg2 : W.grownBy (((W.alloc (.cells #[.slice none 0 0] 25)).alloc (.cells #[.slice D1 l1.length d1] 25)).alloc (.cells #[.slice D2 l2.length d2] 25)) none := ((World.grownBy_alloc W _ none).trans (World.grownBy_alloc _ _ none)).trans (World.grownBy_alloc _ _ none)
    have hsz2 : (((W.alloc (.cells #[.slice none 0 0] 25)).alloc (.cells #[.slice D1 l1.length d1] 25)).alloc (.cells #[.slice D2 l2.length d2] 25)).heap.size = W.heap.size + 3 := by simp
    obtain ⟨W2, hW2⟩ : ∃ W2, ((W.alloc (.cells #[.slice none 0 0] 25)).alloc (.cells #[.slice D1 l1.length d1] 25)).alloc (.cells #[.slice D2 l2.length d2] 25) = W2 := ⟨_, rfl⟩
    rw [hW2] at bL bC bD hg2 hsz2 ⊢
    clear hW2 hs1 hs2
    have hNW := hbl.size
    have hbW2 : Below w.heap.size w W2 := hbl.trans ((below_grown hg2).mono hNW)
    have hr' : W2.heap[l]? = some (.loop r0) := (hg2.block l (Array.getElem?_eq_some_iff.1 hr0).1 (by simp)).trans hr0
    have hkf2 : KeepsFrom W0.heap.size W W2 := (keeps_none hg2).from _
    refine wpIn_rangeFunc_ownN (l₀ := l) (r₀ := r0) rfl hr' (by omega) (gf := 127) (lb := #[.pointer (some ⟨W.heap.size + 1, 0, none⟩), .pointer (some ⟨W.heap.size + 1 + 1, 0, none⟩)]) rfl trivial (enters_of Tryz.func127 (by kernel_rfl) rfl)
      ((pairsU_stops (n - 1 - 1 - 1) (by omega) (W.heap.size + 1) (W.heap.size + 1 + 1) _ _ l1 l2 X w W2 hbW2 bC bD HV1.out HV2.out).inRound l) KpAB.trans (KpAB.b (by omega) (by omega) (by omega)) (Below.refl _ _) (fun _ => rfl)
      (fun pre' W' => (∃ u, Boxed W' W.heap.size 25 u ∧ Acc encU (W.heap.size + 3) 22 (fun g => W.heap.size + 3 ≤ g) W' u (pre'.map fun y => commitI p y.1)) ∧ Below W.heap.size W W' ∧ KeepsFrom W0.heap.size W W' ∧ Boxed W' (W.heap.size + 1) 25 (.slice D1 l1.length d1) ∧ Boxed W' (W.heap.size + 1 + 1) 25 (.slice D2 l2.length d2))
      (fun _ _ _ => False)
      (fun pre' X' Y row hs hg hrow => by
        obtain ⟨⟨u, hb, ha⟩, hB, hK, hb2, hb3⟩ := hs
        have hr' := fun r e => (hrow r e).2
        exact ⟨⟨u, hb.kept hg (boxNe hb hr'), ha.keepc hg hr'⟩, hB.grown hg hB.size (fun k e => by have := (hrow k e).1; omega), ownFrom_keepsFrom (B' := W2.heap.size) hg2.size () X' Y row hK hg hrow, hb2.kept hg (boxNe hb2 hr'), hb3.kept hg (boxNe hb3 hr')⟩)
      (fun _ _ _ _ _ hs _ _ => hs)
      ⟨⟨_, bL, Acc.nil _ _ _ _ _⟩, below_grown hg2, hkf2, bC, bD⟩
      (fun y a'' _ => a'' = { tmps := #[p.v, .slice A1 f.length c1, .slice A2 r.length c2, .pointer (some ⟨w.heap.size, 0, none⟩), undef, undef, .slice none 0 0, .pointer (some ⟨w.heap.size + 1, 0, none⟩), .slice D1 l1.length d1, .slice D2 l2.length d2, .pointer (some ⟨W.heap.size, 0, none⟩), .int .u64 y.1.1, .int .u64 y.1.2, .slice A1 f.length c1, .slice A2 r.length c2, .func (.func 125) #[] #[.pointer (some ⟨w.heap.size + 1 + 1, 0, none⟩), .pointer (some ⟨w.heap.size + 1 + 1 + 1, 0, none⟩)], .slice D1 l1.length d1, .slice D2 l2.length d2, .slice D1 l1.length d1, .slice D2 l2.length d2, .func (.func 127) #[] #[.pointer (some ⟨W.heap.size + 1, 0, none⟩), .pointer (some ⟨W.heap.size + 1 + 1, 0, none⟩)], .int .u64 y.1.1, .int .u64 y.1.2, undef, undef, undef, undef, undef, undef, undef, undef, undef, undef, undef, undef, undef], defers := [] })
      (fun _ _ _ _ _ _ hs _ _ => hs)
      ?assign2 ?body2 ?done2 ?stop2
    case assign2 =>
      rintro lq pre' y W' K hi hK
      gi_wp2
      exact hK _ _ (KeepsFrom.refl _ _) (KpAB.refl _ _ _ _) hi rfl
    case body2 =>
      rintro lq pre' ⟨⟨y1, y2⟩, hu1, hu2⟩ a'' W' hl2 _ ⟨⟨u, hbu, hau⟩, hBW, hKF, hbc, hbd⟩ rfl hlt2
      have HY1 : Hid (U64 y1) := Lib.hid hu1
      have HY2 : Hid (U64 y2) := Lib.hid hu2
      obtain ⟨A3, c3, e3, _, _⟩ := hau.sl.form
      rw [List.length_map] at e3
      subst e3
      have HAC := Lib.hid hau
      have HBL := Lib.hid hbu
      have HBC := Lib.hid hbc
      have HBD := Lib.hid hbd
      have HBW := Lib.hid hBW
      have HKF := Lib.hid hKF
      have hltM : W.heap.size < W'.heap.size := hbu.lt
      have hltN : w.heap.size < W'.heap.size := by omega
      have HS0 : Hid (W.heap.size + 3 ≤ W'.heap.size) := Lib.hid (by have := hbd.lt; omega)
      have hpr := (hbp.grown (grown_of_below hBW) (by simp)).prule
      have cU := hbu.cell
      have HCU : Hid (U64 (commitI p (y1, y2))) := Lib.hid (timesI_U64 _ _)
      have HLB : Hid (((pre'.map fun y : UU => commitI p y.1).length + 1) * 8 ≤ 140737488355328) := Lib.hid (by rw [List.length_map]; have := HSM.out; omega)
      clear hau hbc hbd hBW hKF hbu hlt2
      have FIN : ∀ (w3 w4 : World) (A4 : Option Addr) (n4 c4 : Nat), W'.grownBy w3 none → w3.grownBy w4 (Value.slice A3 pre'.length c3).ownBlock → Acc encU (W.heap.size + 3) 22 (fun g => W.heap.size + 3 ≤ g) w3 (.slice A3 pre'.length c3) (pre'.map fun y : UU => commitI p y.1) → Acc encU (W.heap.size + 3) 22 (fun g => W.heap.size + 3 ≤ g) w4 (.slice A4 n4 c4) ((pre'.map fun y : UU => commitI p y.1) ++ [commitI p (y1, y2)]) → Boxed w4 W.heap.size 25 (.slice A3 pre'.length c3) → (fun w5 : World => KeepsFrom W2.heap.size W' w5 ∧ KpAB w.heap.size (W.heap.size + 1) (W.heap.size + 1 + 1) W' w5 ∧ (∃ u, Boxed w5 W.heap.size 25 u ∧ Acc encU (W.heap.size + 3) 22 (fun g => W.heap.size + 3 ≤ g) w5 u ((pre' ++ [(⟨(y1, y2), hu1, hu2⟩ : UU)]).map fun y => commitI p y.1)) ∧ Below W.heap.size W w5 ∧ KeepsFrom W0.heap.size W w5 ∧ Boxed w5 (W.heap.size + 1) 25 (.slice D1 l1.length d1) ∧ Boxed w5 (W.heap.size + 1 + 1) 25 (.slice D2 l2.length d2)) (w4.setCell ⟨W.heap.size, 0, none⟩ (.slice A4 n4 c4)) := by
        intro w3 w4 A4 n4 c4 hG3 hG4 hA3 hA4 hB4
        have hN2 : ∀ k, k < W.heap.size + 3 → some k ≠ (Value.slice A3 pre'.length c3).ownBlock := fun k hk e => by have := (hA3.lt k e.symm).1; omega
        have hN3 : ∀ k, (Value.slice A3 pre'.length c3).ownBlock = some k → W.heap.size + 3 ≤ k := fun k e => (hA3.lt k e).1
        have hK5 : KeepsOthers W' (w4.setCell ⟨W.heap.size, 0, none⟩ (.slice A4 n4 c4)) := ((keeps_none hG3).trans (hA3.keeps hG4)).trans (KeepsOthers.setCell _ _ _)
        have b1 := ((HBC.out.kept hG3 (by simp)).kept hG4 (hN2 _ (by omega))).other (B' := W.heap.size) (by omega) (.slice A4 n4 c4)
        have b2 := ((HBD.out.kept hG3 (by simp)).kept hG4 (hN2 _ (by omega))).other (B' := W.heap.size) (by omega) (.slice A4 n4 c4)
        have hS3 : W'.heap.size ≤ w3.heap.size := hG3.size
        refine ⟨hK5.from _, ⟨(((Below.refl _ W').grown hG3 (by omega) (by simp)).grown hG4 (by omega) (fun k e => by have := hN3 k e; omega)).setCell (p := ⟨W.heap.size, 0, none⟩) hNW _, Eq.trans b1 (Eq.symm HBC.out), Eq.trans b2 (Eq.symm HBD.out)⟩, ⟨_, hB4.set _, ?_⟩, ((HBW.out.grown hG3 (by omega) (by simp)).grown hG4 (by omega) (fun k e => by have := hN3 k e; omega)).setCell (p := ⟨W.heap.size, 0, none⟩) (Nat.le_refl _) _, HKF.out.trans (hK5.from _), b1, b2⟩
        rw [List.map_append]
        exact hA4.keep (grownBy_setCell' w4 W.heap.size _) (fun g hg e => by injection e with e; omega)
      dsimp only
      gi_wp2
      refine wpIn_round_any (l0 := lq) (R := fun _ w5 => KeepsFrom W2.heap.size W' w5 ∧ KpAB w.heap.size (W.heap.size + 1) (W.heap.size + 1 + 1) W' w5 ∧ (∃ u, Boxed w5 W.heap.size 25 u ∧ Acc encU (W.heap.size + 3) 22 (fun g => W.heap.size + 3 ≤ g) w5 u ((pre' ++ [(⟨(y1, y2), hu1, hu2⟩ : UU)]).map fun y => commitI p y.1)) ∧ Below W.heap.size W w5 ∧ KeepsFrom W0.heap.size W w5 ∧ Boxed w5 (W.heap.size + 1) 25 (.slice D1 l1.length d1) ∧ Boxed w5 (W.heap.size + 1 + 1) 25 (.slice D2 l2.length d2)) (by kernel_rfl) (by kernel_rfl) (fun a w h => h) ?_
      refine wpAny_take (i := 2) (oi := ({ dst := some 25, op := Op.move (Operand.tmp 11), type := 22, pos := "pedersen.go:41", after := #[], guard := none } : Oper)) (v := ?vq1) rfl (by kernel_rfl) (by kernel_rfl) (by kernel_rfl) (fun _ _ _ h => h) (Or.inl ⟨by rfl, ?hq1⟩) ?rq1
      case hq1 => (intro w; go_simp; first | done | with_reducible rfl)
      try simp only [Act.put, List.setIfInBounds_toArray, List.set_cons_zero, List.set_cons_succ]
      refine wpAny_take (i := 3) (oi := ({ dst := some 26, op := Op.move (Operand.tmp 12), type := 22, pos := "pedersen.go:41", after := #[], guard := none } : Oper)) (v := ?vq2) rfl (by kernel_rfl) (by kernel_rfl) (by kernel_rfl) (fun _ _ _ h => h) (Or.inl ⟨by rfl, ?hq2⟩) ?rq2
      case hq2 => (intro w; go_simp; first | done | with_reducible rfl)
      try simp only [Act.put, List.setIfInBounds_toArray, List.set_cons_zero, List.set_cons_succ]
      refine wpAny_take (i := 4) (oi := ({ dst := some 27, op := Op.build 58 #[(0, Operand.tmp 25), (1, Operand.tmp 26)], type := 58, pos := "pedersen.go:41", after := #[{ on := 2, ground := Ground.data }, { on := 3, ground := Ground.data }], guard := none } : Oper)) (v := ?vq3) rfl (by kernel_rfl) (by kernel_rfl) (by kernel_rfl) (fun _ _ _ h => h) (Or.inl ⟨by rfl, ?hq3⟩) ?rq3
      case hq3 => (intro w; go_simp; first | done | with_reducible rfl)
      try simp only [Act.put, List.setIfInBounds_toArray, List.set_cons_zero, List.set_cons_succ]
      refine wpAny_ready (rs := [0, 1]) (by kernel_rfl) (by simp) ?_
      refine AllReady.cons (o := ({ dst := some 23, op := Op.load 25 (Operand.tmp 10), type := 25, pos := "pedersen.go:41", after := #[], guard := none } : Oper)) rfl (fun K hK => ?_) ?_
      · skip
        go_simp
        refine hK _ _ ?_
        clear hK K
        try simp only [Act.put, List.setIfInBounds_toArray, List.set_cons_zero, List.set_cons_succ]
        refine wpAny_ready (rs := [1]) (by kernel_rfl) (by simp) ?_
        refine AllReady.cons (o := ({ dst := some 24, op := Op.load 24 (Operand.tmp 3), type := 24, pos := "pedersen.go:41", after := #[], guard := none } : Oper)) rfl (fun K hK => ?_) AllReady.nil
        go_simp
        refine hK _ _ ?_
        clear hK K
        try simp only [Act.put, List.setIfInBounds_toArray, List.set_cons_zero, List.set_cons_succ]
        refine wpAny_ready (rs := [5]) (by kernel_rfl) (by simp) ?_
        refine AllReady.cons (o := ({ dst := some 28, op := Op.call { callee := Callee.value (Operand.func 99), args := #[Operand.tmp 24, Operand.tmp 27], argTypes := #[24, 58] }, type := 22, pos := "pedersen.go:41", after := #[{ on := 1, ground := Ground.data }, { on := 4, ground := Ground.data }], guard := none } : Oper)) rfl (fun K hK => ?_) AllReady.nil
        go_simp
        (go_at_call 99; (with_reducible refine (commit_any p (y1, y2) _ HP.out HY1.out HY2.out).mono ?_); rintro e w3 ⟨rfl, hg3⟩)
        have HG3 : Hid (W'.grownBy w3 none) := Lib.hid ((grown_drewN' W' 1).trans hg3)
        have HA3 := Lib.hid (HAC.out.kept HG3.out)
        have HB3 := Lib.hid (HBL.out.kept HG3.out (by simp))
        have HSZ : Hid (W.heap.size + 3 ≤ w3.heap.size) := Lib.hid (Nat.le_trans HS0.out HG3.out.size)
        have HNX : Hid (∀ g, w3.heap.size ≤ g → W.heap.size + 3 ≤ g) := Lib.hid (fun g hg => Nat.le_trans HSZ.out hg)
        have HNE : Hid (some W.heap.size ≠ (Value.slice A3 pre'.length c3).ownBlock) := Lib.hid (fun e => by have := (HA3.out.lt _ e.symm).1; omega)
        have hc3 := HB3.out.cell
        have hc3a := (HB3.out.alloc (.cells #[.int .u64 (commitI p (y1, y2))] 22)).cell
        clear hg3
        dsimp only
        refine hK _ _ ?_
        clear hK K
        try simp only [Act.put, List.setIfInBounds_toArray, List.set_cons_zero, List.set_cons_succ]
        refine wpAny_ready (rs := [6]) (by kernel_rfl) (by simp) ?_
        refine AllReady.cons (o := ({ dst := some 29, op := Op.buildSlice 25 1 #[(0, Operand.tmp 28)], type := 25, pos := "pedersen.go:41", after := #[{ on := 5, ground := Ground.data }], guard := none } : Oper)) rfl (fun K hK => ?_) AllReady.nil
        go_simp
        refine hK _ _ ?_
        clear hK K
        try simp only [Act.put, List.setIfInBounds_toArray, List.set_cons_zero, List.set_cons_succ]
        refine wpAny_ready (rs := [7]) (by kernel_rfl) (by simp) ?_
        refine AllReady.cons (o := ({ dst := some 30, op := Op.call { callee := Callee.builtin Builtin.append, args := #[Operand.tmp 23, Operand.tmp 29], argTypes := #[25, 25] }, type := 25, pos := "pedersen.go:41", after := #[{ on := 0, ground := Ground.data }, { on := 6, ground := Ground.data }, { on := 5, ground := Ground.chain }], guard := none } : Oper)) rfl (fun K hK => ?_) AllReady.nil
        refine step_push rfl (.tmp 23) (.tmp 29) rfl (E := encU) (y := commitI p (y1, y2)) el_u64 HA3.out rfl rfl ⟨rfl, HCU.out⟩ HLB.out HSZ.out HNX.out ?_
        intro v4 w4 hacc4 hg4 _
        obtain ⟨A4, c4, e4, _, _⟩ := hacc4.sl.form
        generalize (List.map (fun y : UU => commitI p y.1) pre' ++ [commitI p (y1, y2)]).length = n4 at e4
        subst e4
        have HA4 := Lib.hid hacc4
        have HG4 := Lib.hid hg4
        have hB4 := HB3.out.kept HG4.out HNE.out
        have cB4 := hB4.cell
        have fB4 := hB4.frozen
        have HB4 := Lib.hid hB4
        clear hacc4 hg4 hB4
        refine hK _ _ ?_
        clear hK K
        try simp only [Act.put, List.setIfInBounds_toArray, List.set_cons_zero, List.set_cons_succ]
        refine wpAny_ready (rs := [8]) (by kernel_rfl) (by simp) ?_
        refine AllReady.cons (o := ({ dst := none, op := Op.store 25 (Operand.tmp 10) (Operand.tmp 30), type := 0, pos := "pedersen.go:41", after := #[{ on := 7, ground := Ground.data }, { on := 7, ground := Ground.chain }, { on := 0, ground := Ground.phase }, { on := 1, ground := Ground.phase }, { on := 2, ground := Ground.phase }, { on := 3, ground := Ground.phase }, { on := 4, ground := Ground.phase }, { on := 5, ground := Ground.phase }, { on := 6, ground := Ground.phase }, { on := 7, ground := Ground.phase }], guard := none } : Oper)) rfl (fun K hK => ?_) AllReady.nil
        go_simp
        refine hK _ _ ?_
        clear hK K
        try simp only [Act.put, List.setIfInBounds_toArray, List.set_cons_zero, List.set_cons_succ]
        refine wpAny_done (by kernel_rfl) ?_ _
        exact ⟨rfl, FIN w3 w4 A4 n4 c4 HG3.out HG4.out HA3.out HA4.out HB4.out⟩
      refine AllReady.cons (o := ({ dst := some 24, op := Op.load 24 (Operand.tmp 3), type := 24, pos := "pedersen.go:41", after := #[], guard := none } : Oper)) rfl (fun K hK => ?_) AllReady.nil
      go_simp
      refine hK _ _ ?_
      clear hK K
      try simp only [Act.put, List.setIfInBounds_toArray, List.set_cons_zero, List.set_cons_succ]
      refine wpAny_ready (rs := [0, 5]) (by kernel_rfl) (by simp) ?_
      refine AllReady.cons (o := ({ dst := some 23, op := Op.load 25 (Operand.tmp 10), type := 25, pos := "pedersen.go:41", after := #[], guard := none } : Oper)) rfl (fun K hK => ?_) ?_
      · skip
        go_simp
        refine hK _ _ ?_
        clear hK K
        try simp only [Act.put, List.setIfInBounds_toArray, List.set_cons_zero, List.set_cons_succ]
        refine wpAny_ready (rs := [5]) (by kernel_rfl) (by simp) ?_
        refine AllReady.cons (o := ({ dst := some 28, op := Op.call { callee := Callee.value (Operand.func 99), args := #[Operand.tmp 24, Operand.tmp 27], argTypes := #[24, 58] }, type := 22, pos := "pedersen.go:41", after := #[{ on := 1, ground := Ground.data }, { on := 4, ground := Ground.data }], guard := none } : Oper)) rfl (fun K hK => ?_) AllReady.nil
        go_simp
        (go_at_call 99; (with_reducible refine (commit_any p (y1, y2) _ HP.out HY1.out HY2.out).mono ?_); rintro e w3 ⟨rfl, hg3⟩)
        have HG3 : Hid (W'.grownBy w3 none) := Lib.hid ((grown_drewN' W' 1).trans hg3)
        have HA3 := Lib.hid (HAC.out.kept HG3.out)
        have HB3 := Lib.hid (HBL.out.kept HG3.out (by simp))
        have HSZ : Hid (W.heap.size + 3 ≤ w3.heap.size) := Lib.hid (Nat.le_trans HS0.out HG3.out.size)
        have HNX : Hid (∀ g, w3.heap.size ≤ g → W.heap.size + 3 ≤ g) := Lib.hid (fun g hg => Nat.le_trans HSZ.out hg)
        have HNE : Hid (some W.heap.size ≠ (Value.slice A3 pre'.length c3).ownBlock) := Lib.hid (fun e => by have := (HA3.out.lt _ e.symm).1; omega)
        have hc3 := HB3.out.cell
        have hc3a := (HB3.out.alloc (.cells #[.int .u64 (commitI p (y1, y2))] 22)).cell
        clear hg3
        dsimp only
        refine hK _ _ ?_
        clear hK K
        try simp only [Act.put, List.setIfInBounds_toArray, List.set_cons_zero, List.set_cons_succ]
        refine wpAny_ready (rs := [6]) (by kernel_rfl) (by simp) ?_
        refine AllReady.cons (o := ({ dst := some 29, op := Op.buildSlice 25 1 #[(0, Operand.tmp 28)], type := 25, pos := "pedersen.go:41", after := #[{ on := 5, ground := Ground.data }], guard := none } : Oper)) rfl (fun K hK => ?_) AllReady.nil
        go_simp
        refine hK _ _ ?_
        clear hK K
        try simp only [Act.put, List.setIfInBounds_toArray, List.set_cons_zero, List.set_cons_succ]
        refine wpAny_ready (rs := [7]) (by kernel_rfl) (by simp) ?_
        refine AllReady.cons (o := ({ dst := some 30, op := Op.call { callee := Callee.builtin Builtin.append, args := #[Operand.tmp 23, Operand.tmp 29], argTypes := #[25, 25] }, type := 25, pos := "pedersen.go:41", after := #[{ on := 0, ground := Ground.data }, { on := 6, ground := Ground.data }, { on := 5, ground := Ground.chain }], guard := none } : Oper)) rfl (fun K hK => ?_) AllReady.nil
        refine step_push rfl (.tmp 23) (.tmp 29) rfl (E := encU) (y := commitI p (y1, y2)) el_u64 HA3.out rfl rfl ⟨rfl, HCU.out⟩ HLB.out HSZ.out HNX.out ?_
        intro v4 w4 hacc4 hg4 _
        obtain ⟨A4, c4, e4, _, _⟩ := hacc4.sl.form
        generalize (List.map (fun y : UU => commitI p y.1) pre' ++ [commitI p (y1, y2)]).length = n4 at e4
        subst e4
        have HA4 := Lib.hid hacc4
        have HG4 := Lib.hid hg4
        have hB4 := HB3.out.kept HG4.out HNE.out
        have cB4 := hB4.cell
        have fB4 := hB4.frozen
        have HB4 := Lib.hid hB4
        clear hacc4 hg4 hB4
        refine hK _ _ ?_
        clear hK K
        try simp only [Act.put, List.setIfInBounds_toArray, List.set_cons_zero, List.set_cons_succ]
        refine wpAny_ready (rs := [8]) (by kernel_rfl) (by simp) ?_
        refine AllReady.cons (o := ({ dst := none, op := Op.store 25 (Operand.tmp 10) (Operand.tmp 30), type := 0, pos := "pedersen.go:41", after := #[{ on := 7, ground := Ground.data }, { on := 7, ground := Ground.chain }, { on := 0, ground := Ground.phase }, { on := 1, ground := Ground.phase }, { on := 2, ground := Ground.phase }, { on := 3, ground := Ground.phase }, { on := 4, ground := Ground.phase }, { on := 5, ground := Ground.phase }, { on := 6, ground := Ground.phase }, { on := 7, ground := Ground.phase }], guard := none } : Oper)) rfl (fun K hK => ?_) AllReady.nil
        go_simp
        refine hK _ _ ?_
        clear hK K
        try simp only [Act.put, List.setIfInBounds_toArray, List.set_cons_zero, List.set_cons_succ]
        refine wpAny_done (by kernel_rfl) ?_ _
        exact ⟨rfl, FIN w3 w4 A4 n4 c4 HG3.out HG4.out HA3.out HA4.out HB4.out⟩
      refine AllReady.cons (o := ({ dst := some 28, op := Op.call { callee := Callee.value (Operand.func 99), args := #[Operand.tmp 24, Operand.tmp 27], argTypes := #[24, 58] }, type := 22, pos := "pedersen.go:41", after := #[{ on := 1, ground := Ground.data }, { on := 4, ground := Ground.data }], guard := none } : Oper)) rfl (fun K hK => ?_) AllReady.nil
      go_simp
      (go_at_call 99; (with_reducible refine (commit_any p (y1, y2) _ HP.out HY1.out HY2.out).mono ?_); rintro e w3 ⟨rfl, hg3⟩)
      have HG3 : Hid (W'.grownBy w3 none) := Lib.hid ((grown_drewN' W' 1).trans hg3)
      have HA3 := Lib.hid (HAC.out.kept HG3.out)
      have HB3 := Lib.hid (HBL.out.kept HG3.out (by simp))
      have HSZ : Hid (W.heap.size + 3 ≤ w3.heap.size) := Lib.hid (Nat.le_trans HS0.out HG3.out.size)
      have HNX : Hid (∀ g, w3.heap.size ≤ g → W.heap.size + 3 ≤ g) := Lib.hid (fun g hg => Nat.le_trans HSZ.out hg)
      have HNE : Hid (some W.heap.size ≠ (Value.slice A3 pre'.length c3).ownBlock) := Lib.hid (fun e => by have := (HA3.out.lt _ e.symm).1; omega)
      have hc3 := HB3.out.cell
      have hc3a := (HB3.out.alloc (.cells #[.int .u64 (commitI p (y1, y2))] 22)).cell
      clear hg3
      dsimp only
      refine hK _ _ ?_
      clear hK K
      try simp only [Act.put, List.setIfInBounds_toArray, List.set_cons_zero, List.set_cons_succ]
      refine wpAny_ready (rs := [0, 6]) (by kernel_rfl) (by simp) ?_
      refine AllReady.cons (o := ({ dst := some 23, op := Op.load 25 (Operand.tmp 10), type := 25, pos := "pedersen.go:41", after := #[], guard := none } : Oper)) rfl (fun K hK => ?_) ?_
      · skip
        go_simp
        refine hK _ _ ?_
        clear hK K
        try simp only [Act.put, List.setIfInBounds_toArray, List.set_cons_zero, List.set_cons_succ]
        refine wpAny_ready (rs := [6]) (by kernel_rfl) (by simp) ?_
        refine AllReady.cons (o := ({ dst := some 29, op := Op.buildSlice 25 1 #[(0, Operand.tmp 28)], type := 25, pos := "pedersen.go:41", after := #[{ on := 5, ground := Ground.data }], guard := none } : Oper)) rfl (fun K hK => ?_) AllReady.nil
        go_simp
        refine hK _ _ ?_
        clear hK K
        try simp only [Act.put, List.setIfInBounds_toArray, List.set_cons_zero, List.set_cons_succ]
        refine wpAny_ready (rs := [7]) (by kernel_rfl) (by simp) ?_
        refine AllReady.cons (o := ({ dst := some 30, op := Op.call { callee := Callee.builtin Builtin.append, args := #[Operand.tmp 23, Operand.tmp 29], argTypes := #[25, 25] }, type := 25, pos := "pedersen.go:41", after := #[{ on := 0, ground := Ground.data }, { on := 6, ground := Ground.data }, { on := 5, ground := Ground.chain }], guard := none } : Oper)) rfl (fun K hK => ?_) AllReady.nil
        refine step_push rfl (.tmp 23) (.tmp 29) rfl (E := encU) (y := commitI p (y1, y2)) el_u64 HA3.out rfl rfl ⟨rfl, HCU.out⟩ HLB.out HSZ.out HNX.out ?_
        intro v4 w4 hacc4 hg4 _
        obtain ⟨A4, c4, e4, _, _⟩ := hacc4.sl.form
        generalize (List.map (fun y : UU => commitI p y.1) pre' ++ [commitI p (y1, y2)]).length = n4 at e4
        subst e4
        have HA4 := Lib.hid hacc4
        have HG4 := Lib.hid hg4
        have hB4 := HB3.out.kept HG4.out HNE.out
        have cB4 := hB4.cell
        have fB4 := hB4.frozen
        have HB4 := Lib.hid hB4
        clear hacc4 hg4 hB4
        refine hK _ _ ?_
        clear hK K
        try simp only [Act.put, List.setIfInBounds_toArray, List.set_cons_zero, List.set_cons_succ]
        refine wpAny_ready (rs := [8]) (by kernel_rfl) (by simp) ?_
        refine AllReady.cons (o := ({ dst := none, op := Op.store 25 (Operand.tmp 10) (Operand.tmp 30), type := 0, pos := "pedersen.go:41", after := #[{ on := 7, ground := Ground.data }, { on := 7, ground := Ground.chain }, { on := 0, ground := Ground.phase }, { on := 1, ground := Ground.phase }, { on := 2, ground := Ground.phase }, { on := 3, ground := Ground.phase }, { on := 4, ground := Ground.phase }, { on := 5, ground := Ground.phase }, { on := 6, ground := Ground.phase }, { on := 7, ground := Ground.phase }], guard := none } : Oper)) rfl (fun K hK => ?_) AllReady.nil
        go_simp
        refine hK _ _ ?_
        clear hK K
        try simp only [Act.put, List.setIfInBounds_toArray, List.set_cons_zero, List.set_cons_succ]
        refine wpAny_done (by kernel_rfl) ?_ _
        exact ⟨rfl, FIN w3 w4 A4 n4 c4 HG3.out HG4.out HA3.out HA4.out HB4.out⟩
      refine AllReady.cons (o := ({ dst := some 29, op := Op.buildSlice 25 1 #[(0, Operand.tmp 28)], type := 25, pos := "pedersen.go:41", after := #[{ on := 5, ground := Ground.data }], guard := none } : Oper)) rfl (fun K hK => ?_) AllReady.nil
      go_simp
      refine hK _ _ ?_
      clear hK K
      try simp only [Act.put, List.setIfInBounds_toArray, List.set_cons_zero, List.set_cons_succ]
      refine wpAny_ready (rs := [0]) (by kernel_rfl) (by simp) ?_
      refine AllReady.cons (o := ({ dst := some 23, op := Op.load 25 (Operand.tmp 10), type := 25, pos := "pedersen.go:41", after := #[], guard := none } : Oper)) rfl (fun K hK => ?_) AllReady.nil
      go_simp
      refine hK _ _ ?_
      clear hK K
      try simp only [Act.put, List.setIfInBounds_toArray, List.set_cons_zero, List.set_cons_succ]
      refine wpAny_ready (rs := [7]) (by kernel_rfl) (by simp) ?_
      refine AllReady.cons (o := ({ dst := some 30, op := Op.call { callee := Callee.builtin Builtin.append, args := #[Operand.tmp 23, Operand.tmp 29], argTypes := #[25, 25] }, type := 25, pos := "pedersen.go:41", after := #[{ on := 0, ground := Ground.data }, { on := 6, ground := Ground.data }, { on := 5, ground := Ground.chain }], guard := none } : Oper)) rfl (fun K hK => ?_) AllReady.nil
      refine step_push rfl (.tmp 23) (.tmp 29) rfl (E := encU) (y := commitI p (y1, y2)) el_u64 HA3.out rfl rfl ⟨rfl, HCU.out⟩ HLB.out HSZ.out HNX.out ?_
      intro v4 w4 hacc4 hg4 _
      obtain ⟨A4, c4, e4, _, _⟩ := hacc4.sl.form
      generalize (List.map (fun y : UU => commitI p y.1) pre' ++ [commitI p (y1, y2)]).length = n4 at e4
      subst e4
      have HA4 := Lib.hid hacc4
      have HG4 := Lib.hid hg4
      have hB4 := HB3.out.kept HG4.out HNE.out
      have cB4 := hB4.cell
      have fB4 := hB4.frozen
      have HB4 := Lib.hid hB4
      clear hacc4 hg4 hB4
      refine hK _ _ ?_
      clear hK K
      try simp only [Act.put, List.setIfInBounds_toArray, List.set_cons_zero, List.set_cons_succ]
      refine wpAny_ready (rs := [8]) (by kernel_rfl) (by simp) ?_
      refine AllReady.cons (o := ({ dst := none, op := Op.store 25 (Operand.tmp 10) (Operand.tmp 30), type := 0, pos := "pedersen.go:41", after := #[{ on := 7, ground := Ground.data }, { on := 7, ground := Ground.chain }, { on := 0, ground := Ground.phase }, { on := 1, ground := Ground.phase }, { on := 2, ground := Ground.phase }, { on := 3, ground := Ground.phase }, { on := 4, ground := Ground.phase }, { on := 5, ground := Ground.phase }, { on := 6, ground := Ground.phase }, { on := 7, ground := Ground.phase }], guard := none } : Oper)) rfl (fun K hK => ?_) AllReady.nil
      go_simp
      refine hK _ _ ?_
      clear hK K
      try simp only [Act.put, List.setIfInBounds_toArray, List.set_cons_zero, List.set_cons_succ]
      refine wpAny_done (by kernel_rfl) ?_ _
      exact ⟨rfl, FIN w3 w4 A4 n4 c4 HG3.out HG4.out HA3.out HA4.out HB4.out⟩
    case done2 =>
      rintro ys' W' hys ⟨⟨u, hbu, hau⟩, hBW, hKF, hbc, hbd⟩
      rw [map_val_commit p hys] at hau
      obtain ⟨A3, c3, e3, _, _⟩ := hau.sl.form
      rw [List.length_map] at e3
      subst e3
      obtain ⟨A5, c5, e5, _, _⟩ := hao.sl.form
      rw [List.length_map] at e5
      subst e5
      have hG := grown_of_below hBW
      have HG := Lib.hid hG
      have hbo' := hbo.kept hG (by simp)
      have HAO := Lib.hid (hao.kept hG)
      have HBO := Lib.hid hbo'
      have HLT := Lib.hid hao.lt
      have cO := hbo'.cell
      have cU := hbu.cell
      have hMN : w.heap.size + 4 ≤ W.heap.size := by have := hbb.lt; omega
      have HU : Hid (Sl encU (fun g => w.heap.size + 4 ≤ g ∧ some g ≠ (Value.slice A5 pre.length c5).ownBlock) W' (.slice A3 (zipU l1 l2).length c3) (comI p (l1, l2))) := Lib.hid (hau.sl.more (fun g _ hg => ⟨by omega, fun e => by have := (HLT.out g e.symm).2; omega⟩))
      have HLB : Hid (((pre.map fun x : SS encU X w small1 => comI p x.lists).length + 1) * 24 ≤ 140737488355328) := Lib.hid (by rw [List.length_map]; have := HPL.out; omega)
      have HSZ : Hid (w.heap.size + 4 ≤ W'.heap.size) := Lib.hid (by have := hG.size; omega)
      have HNX : Hid (∀ g, W'.heap.size ≤ g → w.heap.size + 4 ≤ g) := Lib.hid (fun g hg => Nat.le_trans HSZ.out hg)
      have HKF := Lib.hid hKF
      have HBW := Lib.hid hBW
      have HNE : Hid (some (w.heap.size + 1) ≠ (Value.slice A5 pre.length c5).ownBlock) := Lib.hid (fun e => by have := (HAO.out.lt _ e.symm).1; omega)
      clear hau hao hbo' hBW hKF hbc hbd
      gi_wp2_with (gi_at_builtin; refine wpListIn_push rfl (.tmp 31) (.tmp 33) rfl (E := encS encU) (y := comI p (l1, l2)) el_nums HAO.out rfl rfl ⟨_, rfl, HU.out⟩ HLB.out HSZ.out HNX.out ?_)
      intro v4 w4 hacc4 hg4 _
      obtain ⟨A4, c4, e4, _, _⟩ := hacc4.sl.form
      generalize (List.map (fun x : SS encU X w small1 => comI p x.lists) pre ++ [comI p (l1, l2)]).length = n4 at e4
      subst e4
      have HA4 := Lib.hid hacc4
      have HG4 := Lib.hid hg4
      have hB4 := HBO.out.kept HG4.out HNE.out
      have cB4 := hB4.cell
      have fB4 := hB4.frozen
      have HB4 := Lib.hid hB4
      clear hacc4 hg4 hB4
      gi_wp2
      have hN2 : ∀ k, k < w.heap.size + 4 → some k ≠ (Value.slice A5 pre.length c5).ownBlock := fun k hk e => by have := (HAO.out.lt k e.symm).1; omega
      have hN3 : ∀ k, (Value.slice A5 pre.length c5).ownBlock = some k → w.heap.size + 4 ≤ k := fun k e => (HAO.out.lt k e).1
      have hK5 : KeepsFrom W0.heap.size W (w4.setCell ⟨w.heap.size + 1, 0, none⟩ (.slice A4 n4 c4)) := HKF.out.trans ((HAO.out.keeps HG4.out).trans (KeepsOthers.setCell _ _ _) |>.from _)
      have b1 := ((hba.kept HG.out (by simp)).kept HG4.out (hN2 _ (by omega))).other (B' := w.heap.size + 1) (by omega) (.slice A4 n4 c4)
      have b2 := ((hbb.kept HG.out (by simp)).kept HG4.out (hN2 _ (by omega))).other (B' := w.heap.size + 1) (by omega) (.slice A4 n4 c4)
      have hS3 : W.heap.size ≤ W'.heap.size := HG.out.size
      refine ⟨hK5, ⟨(((Below.refl _ W).grown HG.out (by omega) (by simp)).grown HG4.out (by omega) (fun k e => by have := hN3 k e; omega)).setCell (p := ⟨w.heap.size + 1, 0, none⟩) (by simp) _, Eq.trans b1 (Eq.symm hba), Eq.trans b2 (Eq.symm hbb)⟩, ⟨_, HB4.out.set _, ?_⟩, ?_, ((hbl.grown HG.out (by omega) (by simp)).grown HG4.out (by omega) (fun k e => by have := hN3 k e; omega)).setCell (p := ⟨w.heap.size + 1, 0, none⟩) (by simp) _, b1, b2⟩
      · rw [List.map_append]
        exact HA4.out.keep (grownBy_setCell' w4 (w.heap.size + 1) _) (fun g hg e => by injection e with e; omega)
      · exact ((hbp.grown HG.out (by simp)).grown HG4.out (hN2 _ (by omega))).grown (grownBy_setCell' w4 (w.heap.size + 1) _) (fun e => by injection e with e; omega)
    case stop2 =>
      rintro c pre' W' _ h
      exact h.elim
  case done =>
    rintro D zs W hD hzs ⟨⟨v, hbo, hao⟩, hbp, hbl, hba, hbb⟩ hK
    have cO := hbo.cell
    rw [map_lists_com p hzs] at hao
    obtain ⟨A3, c3, e3, _, _⟩ := hao.sl.form
    rw [List.length_map] at e3
    subst e3
    gi_wp2
    refine ⟨by simp, .inl ⟨_, _, rfl, run_takeDeferred hK, ?_⟩⟩
    refine ⟨_, results_tmp rfl _ _ _, .slice A3 (zipS f r).length c3, rfl, ?_, ?_⟩
    · exact (hao.sl.keepc (grownBy_putObj' W D _) (fun r e => ⟨.deferred (some []), by cases e; exact hK, rfl⟩)).more (Y := fun g => w.heap.size ≤ g) (fun g _ h => Nat.le_trans (Nat.le_add_right _ 4) h)
    · exact grown_of_below (hbl.trans (belowK_b (w := w) (Nat.le_refl _) W D _ _ (by omega) hK rfl rfl))
  case stop =>
    rintro D c pre W _ _ h _
    exact h.elim
end Go.Proofs.YtnjkelojkoeihaaGreatDoor

namespace Go.Proofs.YtnjkelojkoeihaaGreatDoor
open Go Go.RowKit Go.Shelf

attribute [local go_sem] Oper.semAt_some
def matI (p : Par) (f r : List (List (List Int))) : List (List (List Int)) := (zipS f r).map fun x => comsI p x.1 x.2
abbrev small2 (m : List (List Int)) : Prop := m.length ≤ 100000 ∧ ∀ c ∈ m, c.length ≤ 100000
theorem map_lists_mat (p : Par) {X : Nat → Prop} {w₀ : World} {G : List (List Int) → Prop} {ys : List (SS (encS encU) X w₀ G)} {z : List (List (List Int) × List (List Int))} (h : ys.map SS.lists = z) : ys.map (fun y => comsI p y.lists.1 y.lists.2) = z.map (fun x => comsI p x.1 x.2) := by
  rw [← h, List.map_map]
  rfl
set_option maxRecDepth 100000 in
set_option maxHeartbeats 4000000 in
theorem matrix_in (n : Nat) (hn : 6 ≤ n) (p : Par) (vf vr : Value) (f r : List (List (List Int))) (X : Nat → Prop) (w : World) (hp : p.ok) (hf : Sl (encS (encS encU)) X w vf f) (hr : Sl (encS (encS encU)) X w vr r) (hb1 : f.length ≤ 100000) (hb2 : r.length ≤ 100000) (hb3 : ∀ c ∈ f, small2 c) (hb4 : ∀ c ∈ r, small2 c) :
    CallsIn Fence.wide n Tryz.prog 90 #[p.v, vf, vr] w (Gives (encS (encS encU)) (fun g => w.heap.size ≤ g) w (matI p f r)) := by
  have h1 : 1 ≤ n := by omega
  have HF := Lib.hid hf
  have HR := Lib.hid hr
  have HP := Lib.hid hp
  obtain ⟨A1, c1, rfl, _, _⟩ := hf.form
  obtain ⟨A2, c2, rfl, _, _⟩ := hr.form
  clear hf hr hp
  have HZL : Hid ((zipS f r).length ≤ 100000) := Lib.hid (by simp [zipS]; omega)
  refine callsIn_of_wp_marks Tryz.func90 rfl trivial ?_ rfl
  simp only [Tryz.ntmps90, List.size_toArray, List.length_cons, List.length_nil, Nat.reduceAdd, Nat.reduceSub, Array.replicate_succ, Array.replicate_zero, List.push_toArray, List.append_toArray, List.nil_append, List.cons_append]
  gi_wp2_with (refine ⟨trivial, ?_⟩; refine (callsIn_wide.2 (pairsM_any _ _ _ _ _ _ _)).mono ?_; rintro e w' ⟨rfl, rfl⟩)
  have hs1 : (w.alloc (.cells p.cells 24)).heap.size = w.heap.size + 1 := by simp
  have hs2 : ((w.alloc (.cells p.cells 24)).alloc (.cells #[.slice none 0 0] 29)).heap.size = w.heap.size + 1 + 1 := by simp
  have hs3 : (((w.alloc (.cells p.cells 24)).alloc (.cells #[.slice none 0 0] 29)).alloc (.cells #[.slice A1 f.length c1] 29)).heap.size = w.heap.size + 1 + 1 + 1 := by simp
  have bP : Bk _ w.heap.size 24 p.cells := (((Bk.new w 24 p.cells).alloc (.cells #[.slice none 0 0] 29)).alloc (.cells #[.slice A1 f.length c1] 29)).alloc (.cells #[.slice A2 r.length c2] 29)
  have bO := ((Boxed.new (w.alloc (.cells p.cells 24)) 29 (.slice none 0 0)).alloc (.cells #[.slice A1 f.length c1] 29)).alloc (.cells #[.slice A2 r.length c2] 29)
  have bA := (Boxed.new ((w.alloc (.cells p.cells 24)).alloc (.cells #[.slice none 0 0] 29)) 29 (.slice A1 f.length c1)).alloc (.cells #[.slice A2 r.length c2] 29)
  have bB := Boxed.new (((w.alloc (.cells p.cells 24)).alloc (.cells #[.slice none 0 0] 29)).alloc (.cells #[.slice A1 f.length c1] 29)) 29 (.slice A2 r.length c2)
  rw [hs1] at bO
  rw [hs2] at bA
  rw [hs3] at bB
  have hB0 : Below w.heap.size w ((((w.alloc (.cells p.cells 24)).alloc (.cells #[.slice none 0 0] 29)).alloc (.cells #[.slice A1 f.length c1] 29)).alloc (.cells #[.slice A2 r.length c2] 29)) := below_grown (((World.grownBy_alloc w _ none).trans (World.grownBy_alloc _ _ none)).trans ((World.grownBy_alloc _ _ none).trans (World.grownBy_alloc _ _ none)))
  have hsz : ((((w.alloc (.cells p.cells 24)).alloc (.cells #[.slice none 0 0] 29)).alloc (.cells #[.slice A1 f.length c1] 29)).alloc (.cells #[.slice A2 r.length c2] 29)).heap.size = w.heap.size + 4 := by simp
  obtain ⟨W0, hW0⟩ : ∃ W0, (((w.alloc (.cells p.cells 24)).alloc (.cells #[.slice none 0 0] 29)).alloc (.cells #[.slice A1 f.length c1] 29)).alloc (.cells #[.slice A2 r.length c2] 29) = W0 := ⟨_, rfl⟩
  rw [hW0] at bP bO bA bB hB0 hsz ⊢
  clear hW0 hs1 hs2 hs3
  have HPG : Hid (∀ c ∈ f, small2 c) := Lib.hid hb3
  refine wpIn_rangeFunc_ownH rfl h1 (gf := 129) (lb := #[.pointer (some ⟨w.heap.size + 1 + 1, 0, none⟩), .pointer (some ⟨w.heap.size + 1 + 1 + 1, 0, none⟩)]) rfl trivial (enters_of Tryz.func129 (by kernel_rfl) rfl)
    (pairsM_stops (n - 1) (by omega) (w.heap.size + 1 + 1) (w.heap.size + 1 + 1 + 1) _ _ f r X w W0 small2 ⟨by simp, by simp⟩ hb3 hb4 hB0 bA bB HF.out HR.out) KpAB.trans (KpAB.b (by omega) (by omega) (by omega)) (Below.refl _ _) (fun _ => rfl)
    (fun pre W => (∃ v, Boxed W (w.heap.size + 1) 29 v ∧ Acc (encS (encS encU)) (w.heap.size + 4) 34 (fun g => w.heap.size + 4 ≤ g) W v (pre.map fun x => comsI p x.lists.1 x.lists.2)) ∧ Bk W w.heap.size 24 p.cells ∧ Below w.heap.size w W ∧ Boxed W (w.heap.size + 1 + 1) 29 (.slice A1 f.length c1) ∧ Boxed W (w.heap.size + 1 + 1 + 1) 29 (.slice A2 r.length c2))
    (fun _ _ _ => False)
    (fun pre X Y row hs hg hrow => by
      obtain ⟨⟨v, hb, ha⟩, hk, hB, hb2, hb3⟩ := hs
      have hr' := fun r e => (hrow r e).2
      exact ⟨⟨v, hb.kept hg (boxNe hb hr'), ha.keepc hg hr'⟩, hk.grown hg (cell_ne (hk.cell 0) hr'), hB.grown hg hB.size (fun k e => by have := (hrow k e).1; omega), hb2.kept hg (boxNe hb2 hr'), hb3.kept hg (boxNe hb3 hr')⟩)
    (fun _ _ _ _ _ hs _ _ => hs)
    ⟨⟨_, bO, Acc.nil _ _ _ _ _⟩, bP, hB0, bA, bB⟩
    (fun x a' _ => a' = { tmps := #[p.v, .slice A1 f.length c1, .slice A2 r.length c2, .pointer (some ⟨w.heap.size, 0, none⟩), undef, undef, .slice none 0 0, .pointer (some ⟨w.heap.size + 1, 0, none⟩), x.1.1.1, x.1.2.1, .slice A1 f.length c1, .slice A2 r.length c2, .func (.func 129) #[] #[.pointer (some ⟨w.heap.size + 1 + 1, 0, none⟩), .pointer (some ⟨w.heap.size + 1 + 1 + 1, 0, none⟩)], x.1.1.1, x.1.2.1, undef, undef, undef, undef, undef, undef, undef, undef], defers := [] })
    (fun _ _ _ _ _ _ hs _ _ => hs)
    ?assign ?body ?done ?stop
  case assign =>
    rintro l pre x W K hi hK
    gi_wp2
    exact hK _ _ (KeepsFrom.refl _ _) (KpAB.refl _ _ _ _) hi rfl
  case body =>
    rintro lq pre ⟨⟨⟨v1, l1⟩, ⟨v2, l2⟩⟩, ⟨hv1, hg1⟩, ⟨hv2, hg2⟩⟩ a' W hl _ ⟨⟨v, hbo, hao⟩, hbp, hbl, hba, hbb⟩ rfl hlt
    have k1 : Sl (encS encU) X w v1 l1 := hv1
    have k2 : Sl (encS encU) X w v2 l2 := hv2
    have k3 : l1.length ≤ 100000 ∧ ∀ c ∈ l1, c.length ≤ 100000 := hg1
    have k4 : l2.length ≤ 100000 ∧ ∀ c ∈ l2, c.length ≤ 100000 := hg2
    have hNW := hbl.size
    have HCOM : Hid (∀ w', W.grownBy w' none → Calls Tryz.prog 82 #[p.v, v1, v2] w' (Gives (encS encU) (fun g => w'.heap.size ≤ g) w' (comsI p l1 l2))) := Lib.hid (fun w' hw => callsIn_wide.1 (coms_in 6 (Nat.le_refl _) p v1 v2 l1 l2 X w' HP.out (k1.kept ((grown_of_below hbl).trans hw)) (k2.kept ((grown_of_below hbl).trans hw)) k3.1 k4.1 k3.2 k4.2))
    obtain ⟨D1, d1, rfl, _, _⟩ := k1.form
    obtain ⟨D2, d2, rfl, _, _⟩ := k2.form
    have HPL : Hid (pre.length < 100000) := Lib.hid (Nat.lt_of_lt_of_le hlt HZL.out)
    obtain ⟨A5, c5, e5, _, _⟩ := hao.sl.form
    rw [List.length_map] at e5
    subst e5
    have HAO := Lib.hid hao
    have HDR : Hid (W.grownBy W.drew none) := Lib.hid (grown_drewN' W 1)
    have HBO := Lib.hid hbo
    have hltO : w.heap.size + 1 < W.heap.size := hbo.lt
    have HS0 : Hid (w.heap.size + 4 ≤ W.heap.size) := Lib.hid (by have := hbb.lt; omega)
    have hpr := hbp.prule
    have cO := hbo.cell
    have HLB : Hid (((pre.map fun x : SS (encS encU) X w small2 => comsI p x.lists.1 x.lists.2).length + 1) * 24 ≤ 140737488355328) := Lib.hid (by rw [List.length_map]; have := HPL.out; omega)
    have FIN : ∀ (w3 w4 : World) (A4 : Option Addr) (n4 c4 : Nat), W.grownBy w3 none → w3.grownBy w4 (Value.slice A5 pre.length c5).ownBlock → Acc (encS (encS encU)) (w.heap.size + 4) 34 (fun g => w.heap.size + 4 ≤ g) w3 (.slice A5 pre.length c5) (pre.map fun x : SS (encS encU) X w small2 => comsI p x.lists.1 x.lists.2) → Acc (encS (encS encU)) (w.heap.size + 4) 34 (fun g => w.heap.size + 4 ≤ g) w4 (.slice A4 n4 c4) ((pre.map fun x : SS (encS encU) X w small2 => comsI p x.lists.1 x.lists.2) ++ [comsI p l1 l2]) → Boxed w4 (w.heap.size + 1) 29 (.slice A5 pre.length c5) → (fun w5 : World => KeepsFrom W0.heap.size W w5 ∧ KpAB w.heap.size (w.heap.size + 1 + 1) (w.heap.size + 1 + 1 + 1) W w5 ∧ (∃ u, Boxed w5 (w.heap.size + 1) 29 u ∧ Acc (encS (encS encU)) (w.heap.size + 4) 34 (fun g => w.heap.size + 4 ≤ g) w5 u ((pre ++ [(⟨((.slice D1 l1.length d1, l1), (.slice D2 l2.length d2, l2)), ⟨hv1, hg1⟩, ⟨hv2, hg2⟩⟩ : SS (encS encU) X w small2)]).map fun x => comsI p x.lists.1 x.lists.2)) ∧ Bk w5 w.heap.size 24 p.cells ∧ Below w.heap.size w w5 ∧ Boxed w5 (w.heap.size + 1 + 1) 29 (.slice A1 f.length c1) ∧ Boxed w5 (w.heap.size + 1 + 1 + 1) 29 (.slice A2 r.length c2)) (w4.setCell ⟨w.heap.size + 1, 0, none⟩ (.slice A4 n4 c4)) := by
      intro w3 w4 A4 n4 c4 hG3 hG4 hA3 hA4 hB4
      have hN2 : ∀ k, k < w.heap.size + 4 → some k ≠ (Value.slice A5 pre.length c5).ownBlock := fun k hk e => by have := (hA3.lt k e.symm).1; omega
      have hN3 : ∀ k, (Value.slice A5 pre.length c5).ownBlock = some k → w.heap.size + 4 ≤ k := fun k e => (hA3.lt k e).1
      have hK5 : KeepsOthers W (w4.setCell ⟨w.heap.size + 1, 0, none⟩ (.slice A4 n4 c4)) := ((keeps_none hG3).trans (hA3.keeps hG4)).trans (KeepsOthers.setCell _ _ _)
      have b1 := ((hba.kept hG3 (by simp)).kept hG4 (hN2 _ (by omega))).other (B' := w.heap.size + 1) (by omega) (.slice A4 n4 c4)
      have b2 := ((hbb.kept hG3 (by simp)).kept hG4 (hN2 _ (by omega))).other (B' := w.heap.size + 1) (by omega) (.slice A4 n4 c4)
      have hS3 : W.heap.size ≤ w3.heap.size := hG3.size
      refine ⟨hK5.from _, ⟨(((Below.refl _ W).grown hG3 (by omega) (by simp)).grown hG4 (by omega) (fun k e => by have := hN3 k e; omega)).setCell (p := ⟨w.heap.size + 1, 0, none⟩) (by simp) _, Eq.trans b1 (Eq.symm hba), Eq.trans b2 (Eq.symm hbb)⟩, ⟨_, hB4.set _, ?_⟩, ?_, ((hbl.grown hG3 (by omega) (by simp)).grown hG4 (by omega) (fun k e => by have := hN3 k e; omega)).setCell (p := ⟨w.heap.size + 1, 0, none⟩) (by simp) _, b1, b2⟩
      · rw [List.map_append]
        exact hA4.keep (grownBy_setCell' w4 (w.heap.size + 1) _) (fun g hg e => by injection e with e; omega)
      · exact ((hbp.grown hG3 (by simp)).grown hG4 (hN2 _ (by omega))).grown (grownBy_setCell' w4 (w.heap.size + 1) _) (fun e => by injection e with e; omega)
    clear k1 k2 k3 k4 hlt
    dsimp only
    gi_wp2
    refine wpIn_round_any (l0 := lq) (R := fun _ w5 => KeepsFrom W0.heap.size W w5 ∧ KpAB w.heap.size (w.heap.size + 1 + 1) (w.heap.size + 1 + 1 + 1) W w5 ∧ (∃ u, Boxed w5 (w.heap.size + 1) 29 u ∧ Acc (encS (encS encU)) (w.heap.size + 4) 34 (fun g => w.heap.size + 4 ≤ g) w5 u ((pre ++ [(⟨((.slice D1 l1.length d1, l1), (.slice D2 l2.length d2, l2)), ⟨hv1, hg1⟩, ⟨hv2, hg2⟩⟩ : SS (encS encU) X w small2)]).map fun x => comsI p x.lists.1 x.lists.2)) ∧ Bk w5 w.heap.size 24 p.cells ∧ Below w.heap.size w w5 ∧ Boxed w5 (w.heap.size + 1 + 1) 29 (.slice A1 f.length c1) ∧ Boxed w5 (w.heap.size + 1 + 1 + 1) 29 (.slice A2 r.length c2)) (by kernel_rfl) (by kernel_rfl) (fun a w h => h) ?_
    refine wpAny_take (i := 2) (oi := ({ dst := some 17, op := Op.move (Operand.tmp 8), type := 34, pos := "pedersen.go:80", after := #[], guard := none } : Oper)) (v := ?vq1) rfl (by kernel_rfl) (by kernel_rfl) (by kernel_rfl) (fun _ _ _ h => h) (Or.inl ⟨by rfl, ?hq1⟩) ?rq1
    case hq1 => (intro w; go_simp; first | done | with_reducible rfl)
    try simp only [Act.put, List.setIfInBounds_toArray, List.set_cons_zero, List.set_cons_succ]
    refine wpAny_take (i := 3) (oi := ({ dst := some 18, op := Op.move (Operand.tmp 9), type := 34, pos := "pedersen.go:80", after := #[], guard := none } : Oper)) (v := ?vq2) rfl (by kernel_rfl) (by kernel_rfl) (by kernel_rfl) (fun _ _ _ h => h) (Or.inl ⟨by rfl, ?hq2⟩) ?rq2
    case hq2 => (intro w; go_simp; first | done | with_reducible rfl)
    try simp only [Act.put, List.setIfInBounds_toArray, List.set_cons_zero, List.set_cons_succ]
    refine wpAny_ready (rs := [0, 1]) (by kernel_rfl) (by simp) ?_
    refine AllReady.cons (o := ({ dst := some 15, op := Op.load 29 (Operand.tmp 7), type := 29, pos := "pedersen.go:80", after := #[], guard := none } : Oper)) rfl (fun K hK => ?_) ?_
    · skip
      go_simp
      refine hK _ _ ?_
      clear hK K
      try simp only [Act.put, List.setIfInBounds_toArray, List.set_cons_zero, List.set_cons_succ]
      refine wpAny_ready (rs := [1]) (by kernel_rfl) (by simp) ?_
      refine AllReady.cons (o := ({ dst := some 16, op := Op.load 24 (Operand.tmp 3), type := 24, pos := "pedersen.go:80", after := #[], guard := none } : Oper)) rfl (fun K hK => ?_) AllReady.nil
      go_simp
      refine hK _ _ ?_
      clear hK K
      try simp only [Act.put, List.setIfInBounds_toArray, List.set_cons_zero, List.set_cons_succ]
      refine wpAny_ready (rs := [4]) (by kernel_rfl) (by simp) ?_
      refine AllReady.cons (o := ({ dst := some 19, op := Op.call { callee := Callee.value (Operand.func 82), args := #[Operand.tmp 16, Operand.tmp 17, Operand.tmp 18], argTypes := #[24, 34, 34] }, type := 34, pos := "pedersen.go:80", after := #[{ on := 1, ground := Ground.data }, { on := 2, ground := Ground.data }, { on := 3, ground := Ground.data }], guard := none } : Oper)) rfl (fun K hK => ?_) AllReady.nil
      go_simp
      (go_at_call 82; (with_reducible refine (HCOM.out _ HDR.out).mono ?_); rintro e w3 ⟨v3, rfl, hs3, hg3⟩)
      obtain ⟨A6, c6, e6, _, _⟩ := hs3.form
      generalize (comsI p l1 l2).length = n6 at e6
      subst e6
      have HG3 : Hid (W.grownBy w3 none) := Lib.hid ((grown_drewN' W 1).trans hg3)
      have HA3 := Lib.hid (HAO.out.kept HG3.out)
      have HB3 := Lib.hid (HBO.out.kept HG3.out (by simp))
      have HSZ : Hid (w.heap.size + 4 ≤ w3.heap.size) := Lib.hid (Nat.le_trans HS0.out HG3.out.size)
      have HNX : Hid (∀ g, w3.heap.size ≤ g → w.heap.size + 4 ≤ g) := Lib.hid (fun g hg => Nat.le_trans HSZ.out hg)
      have HNE : Hid (some (w.heap.size + 1) ≠ (Value.slice A5 pre.length c5).ownBlock) := Lib.hid (fun e => by have := (HA3.out.lt _ e.symm).1; omega)
      have HU : Hid (Sl (encS encU) (fun g => w.heap.size + 4 ≤ g ∧ some g ≠ (Value.slice A5 pre.length c5).ownBlock) w3 (.slice A6 n6 c6) (comsI p l1 l2)) := Lib.hid (hs3.more (fun g _ hg => ⟨Nat.le_trans HS0.out hg, fun e => by have h1 := (HAO.out.lt g e.symm).2; have h2 : W.heap.size ≤ g := hg; omega⟩))
      have hc3 := HB3.out.cell
      have hc3a := (HB3.out.alloc (.cells #[.slice A6 n6 c6] 34)).cell
      clear hg3 hs3
      dsimp only
      refine hK _ _ ?_
      clear hK K
      try simp only [Act.put, List.setIfInBounds_toArray, List.set_cons_zero, List.set_cons_succ]
      refine wpAny_ready (rs := [5]) (by kernel_rfl) (by simp) ?_
      refine AllReady.cons (o := ({ dst := some 20, op := Op.buildSlice 29 1 #[(0, Operand.tmp 19)], type := 29, pos := "pedersen.go:80", after := #[{ on := 4, ground := Ground.data }], guard := none } : Oper)) rfl (fun K hK => ?_) AllReady.nil
      go_simp
      refine hK _ _ ?_
      clear hK K
      try simp only [Act.put, List.setIfInBounds_toArray, List.set_cons_zero, List.set_cons_succ]
      refine wpAny_ready (rs := [6]) (by kernel_rfl) (by simp) ?_
      refine AllReady.cons (o := ({ dst := some 21, op := Op.call { callee := Callee.builtin Builtin.append, args := #[Operand.tmp 15, Operand.tmp 20], argTypes := #[29, 29] }, type := 29, pos := "pedersen.go:80", after := #[{ on := 0, ground := Ground.data }, { on := 5, ground := Ground.data }, { on := 4, ground := Ground.chain }], guard := none } : Oper)) rfl (fun K hK => ?_) AllReady.nil
      refine step_push rfl (.tmp 15) (.tmp 20) rfl (E := encS (encS encU)) (y := comsI p l1 l2) el_rows HA3.out rfl rfl ⟨_, rfl, HU.out⟩ HLB.out HSZ.out HNX.out ?_
      intro v4 w4 hacc4 hg4 _
      obtain ⟨A4, c4, e4, _, _⟩ := hacc4.sl.form
      generalize (List.map (fun x : SS (encS encU) X w small2 => comsI p x.lists.1 x.lists.2) pre ++ [comsI p l1 l2]).length = n4 at e4
      subst e4
      have HA4 := Lib.hid hacc4
      have HG4 := Lib.hid hg4
      have hB4 := HB3.out.kept HG4.out HNE.out
      have cB4 := hB4.cell
      have fB4 := hB4.frozen
      have HB4 := Lib.hid hB4
      clear hacc4 hg4 hB4
      refine hK _ _ ?_
      clear hK K
      try simp only [Act.put, List.setIfInBounds_toArray, List.set_cons_zero, List.set_cons_succ]
      refine wpAny_ready (rs := [7]) (by kernel_rfl) (by simp) ?_
      refine AllReady.cons (o := ({ dst := none, op := Op.store 29 (Operand.tmp 7) (Operand.tmp 21), type := 0, pos := "pedersen.go:80", after := #[{ on := 6, ground := Ground.data }, { on := 6, ground := Ground.chain }, { on := 0, ground := Ground.phase }, { on := 1, ground := Ground.phase }, { on := 2, ground := Ground.phase }, { on := 3, ground := Ground.phase }, { on := 4, ground := Ground.phase }, { on := 5, ground := Ground.phase }, { on := 6, ground := Ground.phase }], guard := none } : Oper)) rfl (fun K hK => ?_) AllReady.nil
      go_simp
      refine hK _ _ ?_
      clear hK K
      try simp only [Act.put, List.setIfInBounds_toArray, List.set_cons_zero, List.set_cons_succ]
      refine wpAny_done (by kernel_rfl) ?_ _
      exact ⟨rfl, FIN w3 w4 A4 n4 c4 HG3.out HG4.out HA3.out HA4.out HB4.out⟩
    refine AllReady.cons (o := ({ dst := some 16, op := Op.load 24 (Operand.tmp 3), type := 24, pos := "pedersen.go:80", after := #[], guard := none } : Oper)) rfl (fun K hK => ?_) AllReady.nil
    go_simp
    refine hK _ _ ?_
    clear hK K
    try simp only [Act.put, List.setIfInBounds_toArray, List.set_cons_zero, List.set_cons_succ]
    refine wpAny_ready (rs := [0, 4]) (by kernel_rfl) (by simp) ?_
    refine AllReady.cons (o := ({ dst := some 15, op := Op.load 29 (Operand.tmp 7), type := 29, pos := "pedersen.go:80", after := #[], guard := none } : Oper)) rfl (fun K hK => ?_) ?_
    · skip
      go_simp
      refine hK _ _ ?_
      clear hK K
      try simp only [Act.put, List.setIfInBounds_toArray, List.set_cons_zero, List.set_cons_succ]
      refine wpAny_ready (rs := [4]) (by kernel_rfl) (by simp) ?_
      refine AllReady.cons (o := ({ dst := some 19, op := Op.call { callee := Callee.value (Operand.func 82), args := #[Operand.tmp 16, Operand.tmp 17, Operand.tmp 18], argTypes := #[24, 34, 34] }, type := 34, pos := "pedersen.go:80", after := #[{ on := 1, ground := Ground.data }, { on := 2, ground := Ground.data }, { on := 3, ground := Ground.data }], guard := none } : Oper)) rfl (fun K hK => ?_) AllReady.nil
      go_simp
      (go_at_call 82; (with_reducible refine (HCOM.out _ HDR.out).mono ?_); rintro e w3 ⟨v3, rfl, hs3, hg3⟩)
      obtain ⟨A6, c6, e6, _, _⟩ := hs3.form
      generalize (comsI p l1 l2).length = n6 at e6
      subst e6
      have HG3 : Hid (W.grownBy w3 none) := Lib.hid ((grown_drewN' W 1).trans hg3)
      have HA3 := Lib.hid (HAO.out.kept HG3.out)
      have HB3 := Lib.hid (HBO.out.kept HG3.out (by simp))
      have HSZ : Hid (w.heap.size + 4 ≤ w3.heap.size) := Lib.hid (Nat.le_trans HS0.out HG3.out.size)
      have HNX : Hid (∀ g, w3.heap.size ≤ g → w.heap.size + 4 ≤ g) := Lib.hid (fun g hg => Nat.le_trans HSZ.out hg)
      have HNE : Hid (some (w.heap.size + 1) ≠ (Value.slice A5 pre.length c5).ownBlock) := Lib.hid (fun e => by have := (HA3.out.lt _ e.symm).1; omega)
      have HU : Hid (Sl (encS encU) (fun g => w.heap.size + 4 ≤ g ∧ some g ≠ (Value.slice A5 pre.length c5).ownBlock) w3 (.slice A6 n6 c6) (comsI p l1 l2)) := Lib.hid (hs3.more (fun g _ hg => ⟨Nat.le_trans HS0.out hg, fun e => by have h1 := (HAO.out.lt g e.symm).2; have h2 : W.heap.size ≤ g := hg; omega⟩))
      have hc3 := HB3.out.cell
      have hc3a := (HB3.out.alloc (.cells #[.slice A6 n6 c6] 34)).cell
      clear hg3 hs3
      dsimp only
      refine hK _ _ ?_
      clear hK K
      try simp only [Act.put, List.setIfInBounds_toArray, List.set_cons_zero, List.set_cons_succ]
      refine wpAny_ready (rs := [5]) (by kernel_rfl) (by simp) ?_
      refine AllReady.cons (o := ({ dst := some 20, op := Op.buildSlice 29 1 #[(0, Operand.tmp 19)], type := 29, pos := "pedersen.go:80", after := #[{ on := 4, ground := Ground.data }], guard := none } : Oper)) rfl (fun K hK => ?_) AllReady.nil
      go_simp
      refine hK _ _ ?_
      clear hK K
      try simp only [Act.put, List.setIfInBounds_toArray, List.set_cons_zero, List.set_cons_succ]
      refine wpAny_ready (rs := [6]) (by kernel_rfl) (by simp) ?_
      refine AllReady.cons (o := ({ dst := some 21, op := Op.call { callee := Callee.builtin Builtin.append, args := #[Operand.tmp 15, Operand.tmp 20], argTypes := #[29, 29] }, type := 29, pos := "pedersen.go:80", after := #[{ on := 0, ground := Ground.data }, { on := 5, ground := Ground.data }, { on := 4, ground := Ground.chain }], guard := none } : Oper)) rfl (fun K hK => ?_) AllReady.nil
      refine step_push rfl (.tmp 15) (.tmp 20) rfl (E := encS (encS encU)) (y := comsI p l1 l2) el_rows HA3.out rfl rfl ⟨_, rfl, HU.out⟩ HLB.out HSZ.out HNX.out ?_
      intro v4 w4 hacc4 hg4 _
      obtain ⟨A4, c4, e4, _, _⟩ := hacc4.sl.form
      generalize (List.map (fun x : SS (encS encU) X w small2 => comsI p x.lists.1 x.lists.2) pre ++ [comsI p l1 l2]).length = n4 at e4
      subst e4
      have HA4 := Lib.hid hacc4
      have HG4 := Lib.hid hg4
      have hB4 := HB3.out.kept HG4.out HNE.out
      have cB4 := hB4.cell
      have fB4 := hB4.frozen
      have HB4 := Lib.hid hB4
      clear hacc4 hg4 hB4
      refine hK _ _ ?_
      clear hK K
      try simp only [Act.put, List.setIfInBounds_toArray, List.set_cons_zero, List.set_cons_succ]
      refine wpAny_ready (rs := [7]) (by kernel_rfl) (by simp) ?_
      refine AllReady.cons (o := ({ dst := none, op := Op.store 29 (Operand.tmp 7) (Operand.tmp 21), type := 0, pos := "pedersen.go:80", after := #[{ on := 6, ground := Ground.data }, { on := 6, ground := Ground.chain }, { on := 0, ground := Ground.phase }, { on := 1, ground := Ground.phase }, { on := 2, ground := Ground.phase }, { on := 3, ground := Ground.phase }, { on := 4, ground := Ground.phase }, { on := 5, ground := Ground.phase }, { on := 6, ground := Ground.phase }], guard := none } : Oper)) rfl (fun K hK => ?_) AllReady.nil
      go_simp
      refine hK _ _ ?_
      clear hK K
      try simp only [Act.put, List.setIfInBounds_toArray, List.set_cons_zero, List.set_cons_succ]
      refine wpAny_done (by kernel_rfl) ?_ _
      exact ⟨rfl, FIN w3 w4 A4 n4 c4 HG3.out HG4.out HA3.out HA4.out HB4.out⟩
    refine AllReady.cons (o := ({ dst := some 19, op := Op.call { callee := Callee.value (Operand.func 82), args := #[Operand.tmp 16, Operand.tmp 17, Operand.tmp 18], argTypes := #[24, 34, 34] }, type := 34, pos := "pedersen.go:80", after := #[{ on := 1, ground := Ground.data }, { on := 2, ground := Ground.data }, { on := 3, ground := Ground.data }], guard := none } : Oper)) rfl (fun K hK => ?_) AllReady.nil
    go_simp
    (go_at_call 82; (with_reducible refine (HCOM.out _ HDR.out).mono ?_); rintro e w3 ⟨v3, rfl, hs3, hg3⟩)
    obtain ⟨A6, c6, e6, _, _⟩ := hs3.form
    generalize (comsI p l1 l2).length = n6 at e6
    subst e6
    have HG3 : Hid (W.grownBy w3 none) := Lib.hid ((grown_drewN' W 1).trans hg3)
    have HA3 := Lib.hid (HAO.out.kept HG3.out)
    have HB3 := Lib.hid (HBO.out.kept HG3.out (by simp))
    have HSZ : Hid (w.heap.size + 4 ≤ w3.heap.size) := Lib.hid (Nat.le_trans HS0.out HG3.out.size)
    have HNX : Hid (∀ g, w3.heap.size ≤ g → w.heap.size + 4 ≤ g) := Lib.hid (fun g hg => Nat.le_trans HSZ.out hg)
    have HNE : Hid (some (w.heap.size + 1) ≠ (Value.slice A5 pre.length c5).ownBlock) := Lib.hid (fun e => by have := (HA3.out.lt _ e.symm).1; omega)
    have HU : Hid (Sl (encS encU) (fun g => w.heap.size + 4 ≤ g ∧ some g ≠ (Value.slice A5 pre.length c5).ownBlock) w3 (.slice A6 n6 c6) (comsI p l1 l2)) := Lib.hid (hs3.more (fun g _ hg => ⟨Nat.le_trans HS0.out hg, fun e => by have h1 := (HAO.out.lt g e.symm).2; have h2 : W.heap.size ≤ g := hg; omega⟩))
    have hc3 := HB3.out.cell
    have hc3a := (HB3.out.alloc (.cells #[.slice A6 n6 c6] 34)).cell
    clear hg3 hs3
    dsimp only
    refine hK _ _ ?_
    clear hK K
    try simp only [Act.put, List.setIfInBounds_toArray, List.set_cons_zero, List.set_cons_succ]
    refine wpAny_ready (rs := [0, 5]) (by kernel_rfl) (by simp) ?_
    refine AllReady.cons (o := ({ dst := some 15, op := Op.load 29 (Operand.tmp 7), type := 29, pos := "pedersen.go:80", after := #[], guard := none } : Oper)) rfl (fun K hK => ?_) ?_
    · skip
      go_simp
      refine hK _ _ ?_
      clear hK K
      try simp only [Act.put, List.setIfInBounds_toArray, List.set_cons_zero, List.set_cons_succ]
      refine wpAny_ready (rs := [5]) (by kernel_rfl) (by simp) ?_
      refine AllReady.cons (o := ({ dst := some 20, op := Op.buildSlice 29 1 #[(0, Operand.tmp 19)], type := 29, pos := "pedersen.go:80", after := #[{ on := 4, ground := Ground.data }], guard := none } : Oper)) rfl (fun K hK => ?_) AllReady.nil
      go_simp
      refine hK _ _ ?_
      clear hK K
      try simp only [Act.put, List.setIfInBounds_toArray, List.set_cons_zero, List.set_cons_succ]
      refine wpAny_ready (rs := [6]) (by kernel_rfl) (by simp) ?_
      refine AllReady.cons (o := ({ dst := some 21, op := Op.call { callee := Callee.builtin Builtin.append, args := #[Operand.tmp 15, Operand.tmp 20], argTypes := #[29, 29] }, type := 29, pos := "pedersen.go:80", after := #[{ on := 0, ground := Ground.data }, { on := 5, ground := Ground.data }, { on := 4, ground := Ground.chain }], guard := none } : Oper)) rfl (fun K hK => ?_) AllReady.nil
      refine step_push rfl (.tmp 15) (.tmp 20) rfl (E := encS (encS encU)) (y := comsI p l1 l2) el_rows HA3.out rfl rfl ⟨_, rfl, HU.out⟩ HLB.out HSZ.out HNX.out ?_
      intro v4 w4 hacc4 hg4 _
      obtain ⟨A4, c4, e4, _, _⟩ := hacc4.sl.form
      generalize (List.map (fun x : SS (encS encU) X w small2 => comsI p x.lists.1 x.lists.2) pre ++ [comsI p l1 l2]).length = n4 at e4
      subst e4
      have HA4 := Lib.hid hacc4
      have HG4 := Lib.hid hg4
      have hB4 := HB3.out.kept HG4.out HNE.out
      have cB4 := hB4.cell
      have fB4 := hB4.frozen
      have HB4 := Lib.hid hB4
      clear hacc4 hg4 hB4
      refine hK _ _ ?_
      clear hK K
      try simp only [Act.put, List.setIfInBounds_toArray, List.set_cons_zero, List.set_cons_succ]
      refine wpAny_ready (rs := [7]) (by kernel_rfl) (by simp) ?_
      refine AllReady.cons (o := ({ dst := none, op := Op.store 29 (Operand.tmp 7) (Operand.tmp 21), type := 0, pos := "pedersen.go:80", after := #[{ on := 6, ground := Ground.data }, { on := 6, ground := Ground.chain }, { on := 0, ground := Ground.phase }, { on := 1, ground := Ground.phase }, { on := 2, ground := Ground.phase }, { on := 3, ground := Ground.phase }, { on := 4, ground := Ground.phase }, { on := 5, ground := Ground.phase }, { on := 6, ground := Ground.phase }], guard := none } : Oper)) rfl (fun K hK => ?_) AllReady.nil
      go_simp
      refine hK _ _ ?_
      clear hK K
      try simp only [Act.put, List.setIfInBounds_toArray, List.set_cons_zero, List.set_cons_succ]
      refine wpAny_done (by kernel_rfl) ?_ _
      exact ⟨rfl, FIN w3 w4 A4 n4 c4 HG3.out HG4.out HA3.out HA4.out HB4.out⟩
    refine AllReady.cons (o := ({ dst := some 20, op := Op.buildSlice 29 1 #[(0, Operand.tmp 19)], type := 29, pos := "pedersen.go:80", after := #[{ on := 4, ground := Ground.data }], guard := none } : Oper)) rfl (fun K hK => ?_) AllReady.nil
    go_simp
    refine hK _ _ ?_
    clear hK K
    try simp only [Act.put, List.setIfInBounds_toArray, List.set_cons_zero, List.set_cons_succ]
    refine wpAny_ready (rs := [0]) (by kernel_rfl) (by simp) ?_
    refine AllReady.cons (o := ({ dst := some 15, op := Op.load 29 (Operand.tmp 7), type := 29, pos := "pedersen.go:80", after := #[], guard := none } : Oper)) rfl (fun K hK => ?_) AllReady.nil
    go_simp
    refine hK _ _ ?_
    clear hK K
    try simp only [Act.put, List.setIfInBounds_toArray, List.set_cons_zero, List.set_cons_succ]
    refine wpAny_ready (rs := [6]) (by kernel_rfl) (by simp) ?_
    refine AllReady.cons (o := ({ dst := some 21, op := Op.call { callee := Callee.builtin Builtin.append, args := #[Operand.tmp 15, Operand.tmp 20], argTypes := #[29, 29] }, type := 29, pos := "pedersen.go:80", after := #[{ on := 0, ground := Ground.data }, { on := 5, ground := Ground.data }, { on := 4, ground := Ground.chain }], guard := none } : Oper)) rfl (fun K hK => ?_) AllReady.nil
    refine step_push rfl (.tmp 15) (.tmp 20) rfl (E := encS (encS encU)) (y := comsI p l1 l2) el_rows HA3.out rfl rfl ⟨_, rfl, HU.out⟩ HLB.out HSZ.out HNX.out ?_
    intro v4 w4 hacc4 hg4 _
    obtain ⟨A4, c4, e4, _, _⟩ := hacc4.sl.form
    generalize (List.map (fun x : SS (encS encU) X w small2 => comsI p x.lists.1 x.lists.2) pre ++ [comsI p l1 l2]).length = n4 at e4
    subst e4
    have HA4 := Lib.hid hacc4
    have HG4 := Lib.hid hg4
    have hB4 := HB3.out.kept HG4.out HNE.out
    have cB4 := hB4.cell
    have fB4 := hB4.frozen
    have HB4 := Lib.hid hB4
    clear hacc4 hg4 hB4
    refine hK _ _ ?_
    clear hK K
    try simp only [Act.put, List.setIfInBounds_toArray, List.set_cons_zero, List.set_cons_succ]
    refine wpAny_ready (rs := [7]) (by kernel_rfl) (by simp) ?_
    refine AllReady.cons (o := ({ dst := none, op := Op.store 29 (Operand.tmp 7) (Operand.tmp 21), type := 0, pos := "pedersen.go:80", after := #[{ on := 6, ground := Ground.data }, { on := 6, ground := Ground.chain }, { on := 0, ground := Ground.phase }, { on := 1, ground := Ground.phase }, { on := 2, ground := Ground.phase }, { on := 3, ground := Ground.phase }, { on := 4, ground := Ground.phase }, { on := 5, ground := Ground.phase }, { on := 6, ground := Ground.phase }], guard := none } : Oper)) rfl (fun K hK => ?_) AllReady.nil
    go_simp
    refine hK _ _ ?_
    clear hK K
    try simp only [Act.put, List.setIfInBounds_toArray, List.set_cons_zero, List.set_cons_succ]
    refine wpAny_done (by kernel_rfl) ?_ _
    exact ⟨rfl, FIN w3 w4 A4 n4 c4 HG3.out HG4.out HA3.out HA4.out HB4.out⟩
  case done =>
    rintro D zs W hD hzs ⟨⟨v, hbo, hao⟩, hbp, hbl, hba, hbb⟩ hK
    have cO := hbo.cell
    rw [map_lists_mat p hzs] at hao
    obtain ⟨A3, c3, e3, _, _⟩ := hao.sl.form
    rw [List.length_map] at e3
    subst e3
    gi_wp2
    refine ⟨by simp, .inl ⟨_, _, rfl, run_takeDeferred hK, ?_⟩⟩
    refine ⟨_, results_tmp rfl _ _ _, .slice A3 (zipS f r).length c3, rfl, ?_, ?_⟩
    · exact (hao.sl.keepc (grownBy_putObj' W D _) (fun r e => ⟨.deferred (some []), by cases e; exact hK, rfl⟩)).more (Y := fun g => w.heap.size ≤ g) (fun g _ h => Nat.le_trans (Nat.le_add_right _ 4) h)
    · exact grown_of_below (hbl.trans (belowK_b (w := w) (Nat.le_refl _) W D _ _ (by omega) hK rfl rfl))
  case stop =>
    rintro D c pre W _ _ h _
    exact h.elim
end Go.Proofs.YtnjkelojkoeihaaGreatDoor

namespace Go.Proofs.YtnjkelojkoeihaaGreatDoor
open Go Go.RowKit

/-- A call that found whether there is one. -/
def FoundB (b : Bool) (w : World) (e : Ending) (w' : World) : Prop := ∃ n : Int, e = .returned (.int .i64 n) ∧ decide (0 ≤ n) = b ∧ I64 n ∧ w.grownBy w' none
set_option maxHeartbeats 400000 in
theorem notIs_any (p : Par) (B : Nat) (x : Int) (w : World) (hp : p.ok) (hb : Bk w B 24 p.cells) (hx : U64 x) :
    Calls Tryz.prog 98 #[.int .u64 x, .pointer (some ⟨B, 0, none⟩)] w fun e w' => e = .returned (.bool (!isB p x)) ∧ w.grownBy w' none := by
  have HC := Lib.hid (is_any p x w hp hx)
  have hpr := hb.prule
  clear hp hb hx
  go_enter Tryz.func98, Tryz.ntmps98
  go_wp2_with fail
  refine HC.out.mono ?_
  rintro e w1 ⟨rfl, hg⟩
  have HG := Lib.hid hg
  clear hg hpr
  go_wp2
  go_ret
  exact ⟨rfl, HG.out⟩
set_option maxHeartbeats 400000 in
theorem indexNot_any (p : Par) (B : Nat) (v : Value) (l : List Int) (X : Nat → Prop) (w : World) (hp : p.ok) (hb : Bk w B 24 p.cells) (h : Sl encU X w v l) :
    Calls Tryz.prog 120 #[v, .func (.func 98) #[] #[.pointer (some ⟨B, 0, none⟩)]] w (FoundB (l.any fun x => !isB p x) w) := by
  have HP := Lib.hid hp
  have HB := Lib.hid hb
  have H := Lib.hid h
  have hl := h.bound
  obtain ⟨A, c, rfl, _, _⟩ := h.form
  clear hp hb h
  go_enter Tryz.func120, Tryz.ntmps120
  go_wp2_with fail
  go_loopg [8] l.length (fun n s8 wx => ∃ j : Nat, j + n = l.length ∧ s8 = .int .i64 j ∧ Hid (w.grownBy wx none ∧ ∀ i (h : i < l.length), i < j → isB p l[i] = true))
  case atStart => exact ⟨0, by omega, rfl, Lib.hid ⟨World.grownBy.refl w none, fun i hi h => absurd h (by omega)⟩⟩
  case round =>
    obtain ⟨j, hj, rfl, HX⟩ := hrel
    cases gk with
    | zero =>
      obtain rfl : j = l.length := by omega
      have HE : Hid (FoundB (l.any fun x => !isB p x) w (.returned (.int .i64 (-1))) wr) := Lib.hid ⟨-1, rfl, by
        have : (l.any fun x => !isB p x) = false := by
          rw [List.any_eq_false]
          intro b hb
          obtain ⟨i, hi, rfl⟩ := List.getElem_of_mem hb
          simp [HX.out.2 i hi hi]
        rw [this]
        rfl, ⟨by decide, by decide⟩, HX.out.1⟩
      clear HX
      go_wp2
      go_ret
      exact HE.out
    | succ k =>
      have hjn : (j : Int) < (l.length : Int) := by omega
      have hjN : j < l.length := by omega
      obtain ⟨g, o, c', e, _, _, hcu, hu⟩ := (H.out.kept HX.out.1).atU hjN
      injection e with e1 e2 e3
      subst e1 e3
      have HC := Lib.hid (notIs_any p B l[j] wr HP.out (HB.out.grown HX.out.1 (by simp)) hu)
      have HV : Hid (isB p l[j] = true ∨ isB p l[j] = false) := Lib.hid (by cases isB p l[j] <;> simp)
      have HR : Hid (isB p l[j] = true → ∀ i (h : i < l.length), i < j + 1 → isB p l[i] = true) := Lib.hid (fun h i hi hl => by
        rcases Nat.lt_or_ge i j with h1 | h1
        · exact HX.out.2 i hi h1
        · obtain rfl : i = j := by omega
          exact h)
      have HN : Hid (isB p l[j] = false → (l.any fun x => !isB p x) = true) := Lib.hid (fun h => List.any_eq_true.2 ⟨_, List.getElem_mem hjN, by simp [h]⟩)
      have HG := Lib.hid HX.out.1
      clear HX hu e2
      generalize isB p l[j] = b at *
      generalize l[j] = x at *
      rcases HV.out with rfl | rfl
      · go_wp2_with fail
        refine HC.out.mono ?_
        rintro e w1 ⟨rfl, hg⟩
        have HG1 := Lib.hid (HG.out.trans hg)
        clear hg
        go_wp2
        go_roundg k
        case measure => omega
        case rel => exact ⟨j + 1, by omega, by go_num, Lib.hid ⟨HG1.out, HR.out (by simp)⟩⟩
      · have HE : Hid (∀ w1, w.grownBy w1 none → FoundB (l.any fun x => !isB p x) w (.returned (.int .i64 j)) w1) := Lib.hid (fun w1 hg => ⟨j, rfl, by rw [HN.out rfl]; simp, ⟨by omega, by omega⟩, hg⟩)
        go_wp2_with fail
        refine HC.out.mono ?_
        rintro e w1 ⟨rfl, hg⟩
        have HG1 := Lib.hid (HG.out.trans hg)
        clear hg
        go_wp2
        go_ret
        exact HE.out _ HG1.out
set_option maxHeartbeats 400000 in
theorem containsNot_any (p : Par) (B : Nat) (v : Value) (l : List Int) (X : Nat → Prop) (w : World) (hp : p.ok) (hb : Bk w B 24 p.cells) (h : Sl encU X w v l) :
    Calls Tryz.prog 97 #[v, .func (.func 98) #[] #[.pointer (some ⟨B, 0, none⟩)]] w fun e w' => e = .returned (.bool (l.any fun x => !isB p x)) ∧ w.grownBy w' none := by
  have HC := Lib.hid (indexNot_any p B v l X w hp hb h)
  obtain ⟨A, c, rfl, _, _⟩ := h.form
  clear hp hb h
  go_enter Tryz.func97, Tryz.ntmps97
  go_wp2_with fail
  refine HC.out.mono ?_
  rintro e w1 ⟨r, rfl, hr, _, hg⟩
  have HG := Lib.hid hg
  have HR := Lib.hid hr
  clear hg hr
  go_wp2
  go_ret
  exact ⟨ret_bool HR.out, HG.out⟩
/-- A list is not as long as that, or not of the group. -/
def rowBad (p : Par) (long : Int) (l : List Int) : Bool := decide ((l.length : Int) ≠ long) || l.any fun x => !isB p x
set_option maxHeartbeats 400000 in
theorem allRow_any (p : Par) (Bn B : Nat) (long : Int) (v : Value) (l : List Int) (X : Nat → Prop) (w : World) (hp : p.ok) (hn : Bk w Bn 3 #[.int .i64 long]) (hb : Bk w B 24 p.cells) (h : Sl encU X w v l) :
    Calls Tryz.prog 96 #[v, .pointer (some ⟨Bn, 0, none⟩), .pointer (some ⟨B, 0, none⟩)] w fun e w' => e = .returned (.bool (rowBad p long l)) ∧ w.grownBy w' none := by
  have HC := Lib.hid (containsNot_any p B v l X w hp hb h)
  have hc := hn.cell 0
  have hc' : w.cell? ⟨Bn, 0, none⟩ = some (.int .i64 long) := hc
  obtain ⟨A, c, rfl, _, _⟩ := h.form
  clear hp hb h hn hc
  by_cases hne : (l.length : Int) = long
  · have HR : Hid (rowBad p long l = l.any fun x => !isB p x) := Lib.hid (by simp [rowBad, hne])
    go_enter Tryz.func96, Tryz.ntmps96
    go_wp2_with fail
    refine HC.out.mono ?_
    rintro e w1 ⟨rfl, hg⟩
    have HG := Lib.hid hg
    clear hg
    go_wp2
    go_ret
    exact ⟨ret_bool HR.out.symm, HG.out⟩
  · have HR : Hid (rowBad p long l = true) := Lib.hid (by simp [rowBad, hne])
    go_enter Tryz.func96, Tryz.ntmps96
    go_wp2
    go_ret
    exact ⟨ret_bool HR.out.symm, World.grownBy.refl w none⟩
set_option maxHeartbeats 400000 in
theorem indexRow_any (p : Par) (Bn B : Nat) (long : Int) (v : Value) (l : List (List Int)) (X : Nat → Prop) (w : World) (hp : p.ok) (hn : Bk w Bn 3 #[.int .i64 long]) (hb : Bk w B 24 p.cells) (h : Sl (encS encU) X w v l) :
    Calls Tryz.prog 119 #[v, .func (.func 96) #[] #[.pointer (some ⟨Bn, 0, none⟩), .pointer (some ⟨B, 0, none⟩)]] w (FoundB (l.any fun x => rowBad p long x) w) := by
  have HP := Lib.hid hp
  have HB := Lib.hid hb
  have HBN := Lib.hid hn
  have H := Lib.hid h
  have hl := h.bound
  obtain ⟨A, c, rfl, _, _⟩ := h.form
  clear hp hb hn h
  go_enter Tryz.func119, Tryz.ntmps119
  go_wp2_with fail
  go_loopg [8] l.length (fun n s8 wx => ∃ j : Nat, j + n = l.length ∧ s8 = .int .i64 j ∧ Hid (w.grownBy wx none ∧ ∀ i (h : i < l.length), i < j → rowBad p long l[i] = false))
  case atStart => exact ⟨0, by omega, rfl, Lib.hid ⟨World.grownBy.refl w none, fun i hi h => absurd h (by omega)⟩⟩
  case round =>
    obtain ⟨j, hj, rfl, HX⟩ := hrel
    cases gk with
    | zero =>
      obtain rfl : j = l.length := by omega
      have HE : Hid (FoundB (l.any fun x => rowBad p long x) w (.returned (.int .i64 (-1))) wr) := Lib.hid ⟨-1, rfl, by
        have : (l.any fun x => rowBad p long x) = false := by
          rw [List.any_eq_false]
          intro b hb
          obtain ⟨i, hi, rfl⟩ := List.getElem_of_mem hb
          simp [HX.out.2 i hi hi]
        rw [this]
        rfl, ⟨by decide, by decide⟩, HX.out.1⟩
      clear HX
      go_wp2
      go_ret
      exact HE.out
    | succ k =>
      have hjn : (j : Int) < (l.length : Int) := by omega
      have hjN : j < l.length := by omega
      obtain ⟨g, o, c', u, e, _, _, hcu, hu⟩ := (H.out.kept HX.out.1).atS hjN
      injection e with e1 e2 e3
      subst e1 e3
      have HC := Lib.hid (allRow_any p Bn B long u l[j] X wr HP.out (HBN.out.grown HX.out.1 (by simp)) (HB.out.grown HX.out.1 (by simp)) hu)
      have HV : Hid (rowBad p long l[j] = false ∨ rowBad p long l[j] = true) := Lib.hid (by cases rowBad p long l[j] <;> simp)
      have HR : Hid (rowBad p long l[j] = false → ∀ i (h : i < l.length), i < j + 1 → rowBad p long l[i] = false) := Lib.hid (fun h i hi hl => by
        rcases Nat.lt_or_ge i j with h1 | h1
        · exact HX.out.2 i hi h1
        · obtain rfl : i = j := by omega
          exact h)
      have HN : Hid (rowBad p long l[j] = true → (l.any fun x => rowBad p long x) = true) := Lib.hid (fun h => List.any_eq_true.2 ⟨_, List.getElem_mem hjN, by simp [h]⟩)
      obtain ⟨A7, c7, e7, _, _⟩ := hu.form
      generalize l[j].length = n7 at e7
      subst e7
      have HG := Lib.hid HX.out.1
      clear HX hu e2
      generalize rowBad p long l[j] = b at *
      generalize l[j] = x at *
      rcases HV.out with rfl | rfl
      · go_wp2_with fail
        refine HC.out.mono ?_
        rintro e w1 ⟨rfl, hg⟩
        have HG1 := Lib.hid (HG.out.trans hg)
        clear hg
        go_wp2
        go_roundg k
        case measure => omega
        case rel => exact ⟨j + 1, by omega, by go_num, Lib.hid ⟨HG1.out, HR.out (by simp)⟩⟩
      · have HE : Hid (∀ w1, w.grownBy w1 none → FoundB (l.any fun x => rowBad p long x) w (.returned (.int .i64 j)) w1) := Lib.hid (fun w1 hg => ⟨j, rfl, by rw [HN.out rfl]; simp, ⟨by omega, by omega⟩, hg⟩)
        go_wp2_with fail
        refine HC.out.mono ?_
        rintro e w1 ⟨rfl, hg⟩
        have HG1 := Lib.hid (HG.out.trans hg)
        clear hg
        go_wp2
        go_ret
        exact HE.out _ HG1.out
set_option maxHeartbeats 400000 in
theorem containsRow_any (p : Par) (Bn B : Nat) (long : Int) (v : Value) (l : List (List Int)) (X : Nat → Prop) (w : World) (hp : p.ok) (hn : Bk w Bn 3 #[.int .i64 long]) (hb : Bk w B 24 p.cells) (h : Sl (encS encU) X w v l) :
    Calls Tryz.prog 95 #[v, .func (.func 96) #[] #[.pointer (some ⟨Bn, 0, none⟩), .pointer (some ⟨B, 0, none⟩)]] w fun e w' => e = .returned (.bool (l.any fun x => rowBad p long x)) ∧ w.grownBy w' none := by
  have HC := Lib.hid (indexRow_any p Bn B long v l X w hp hn hb h)
  obtain ⟨A, c, rfl, _, _⟩ := h.form
  clear hp hb hn h
  go_enter Tryz.func95, Tryz.ntmps95
  go_wp2_with fail
  refine HC.out.mono ?_
  rintro e w1 ⟨r, rfl, hr, _, hg⟩
  have HG := Lib.hid hg
  have HR := Lib.hid hr
  clear hg hr
  go_wp2
  go_ret
  exact ⟨ret_bool HR.out, HG.out⟩
end Go.Proofs.YtnjkelojkoeihaaGreatDoor

namespace Go.Proofs.YtnjkelojkoeihaaGreatDoor
open Go Go.RowKit

def secretsI (p : Par) : Int := wrap64 (p.K * wrap64 (p.D + 1))
set_option maxHeartbeats 400000 in
theorem secrets_any (p : Par) (w : World) :
    Calls Tryz.prog 50 #[p.v] w fun e w' => e = .returned (.int .i64 (secretsI p)) ∧ w.grownBy w' none := by
  go_enter Tryz.func50, Tryz.ntmps50
  go_wp2
  go_ret
  exact ⟨rfl, World.grownBy_alloc w _ none⟩
/-- As many lists, as long as that, all of the group. -/
def allB (p : Par) (l : List (List Int)) (many long : Int) : Bool := decide ((l.length : Int) = many) && !l.any fun x => rowBad p long x
set_option maxHeartbeats 400000 in
theorem all_any (p : Par) (v : Value) (l : List (List Int)) (many long : Int) (X : Nat → Prop) (w : World) (hp : p.ok) (h : Sl (encS encU) X w v l) :
    Calls Tryz.prog 53 #[p.v, v, .int .i64 many, .int .i64 long] w fun e w' => e = .returned (.bool (allB p l many long)) ∧ w.grownBy w' none := by
  have HB : Hid (Bk ((w.alloc (.cells p.cells 24)).alloc (.cells #[.int .i64 long] 3)) w.heap.size 24 p.cells) := Lib.hid ((Bk.new w _ _).alloc _)
  have HBN : Hid (Bk ((w.alloc (.cells p.cells 24)).alloc (.cells #[.int .i64 long] 3)) (w.heap.size + 1) 3 #[.int .i64 long]) := Lib.hid (by have := Bk.new (w.alloc (.cells p.cells 24)) 3 #[.int .i64 long]; simpa using this)
  have HG : Hid (w.grownBy ((w.alloc (.cells p.cells 24)).alloc (.cells #[.int .i64 long] 3)) none) := Lib.hid ((World.grownBy_alloc w _ none).trans (World.grownBy_alloc _ _ none))
  have HC := Lib.hid (containsRow_any p (w.heap.size + 1) w.heap.size long v l X _ hp HBN.out HB.out (h.kept HG.out))
  obtain ⟨A, c, rfl, _, _⟩ := h.form
  clear hp h HB HBN
  by_cases hne : (l.length : Int) = many
  · have HR : Hid (allB p l many long = !l.any fun x => rowBad p long x) := Lib.hid (by simp [allB, hne])
    go_enter Tryz.func53, Tryz.ntmps53
    go_wp2_with fail
    refine HC.out.mono ?_
    rintro e w1 ⟨rfl, hg⟩
    have HG1 := Lib.hid (HG.out.trans hg)
    clear hg
    go_wp2
    go_ret
    exact ⟨ret_bool HR.out.symm, HG1.out⟩
  · have HR : Hid (allB p l many long = false) := Lib.hid (by simp [allB, hne])
    go_enter Tryz.func53, Tryz.ntmps53
    go_wp2
    go_ret
    exact ⟨ret_bool HR.out.symm, HG.out⟩
def formedB (p : Par) (l : List (List Int)) : Bool := allB p l (secretsI p) (IntKind.i64.wrap (p.T + 1))
set_option maxHeartbeats 400000 in
theorem formed_any (p : Par) (v : Value) (l : List (List Int)) (X : Nat → Prop) (w : World) (hp : p.ok) (h : Sl (encS encU) X w v l) :
    Calls Tryz.prog 68 #[p.v, v] w fun e w' => e = .returned (.bool (formedB p l)) ∧ w.grownBy w' none := by
  have HP := Lib.hid hp
  have H := Lib.hid h
  obtain ⟨A, c, rfl, _, _⟩ := h.form
  have HGw : Hid (w.grownBy (w.alloc (.cells p.cells 24)).drew none) := Lib.hid ((World.grownBy_alloc w _ none).trans (grown_drewN' _ 1))
  have HBw : Hid (Bk (w.alloc (.cells p.cells 24)).drew w.heap.size 24 p.cells) := Lib.hid (Bk.new w _ _)
  clear hp h
  go_enter Tryz.func68, Tryz.ntmps68
  go_wp2_with fail
  go_region_held3 (fun w' => ∀ o, w'.cell? ⟨w.heap.size, o, none⟩ = (#[.int .u64 p.P, .int .u64 p.Q, .int .u64 p.G, .int .u64 p.H, .int .i64 p.Nodes, .int .i64 p.N, .int .i64 p.T, .int .i64 p.K, .int .i64 p.D, .int .i64 p.R, .int .i64 p.M, .int .i64 p.X] : Array Value)[o]?) (first | assumption | exact (Bk.new w 24 p.cells).prule | go_keep)
    (first
    | (go_at_call 50; (with_reducible refine (secrets_any p _).mono ?_); rintro e w1 ⟨rfl, hg⟩; have HG1 := Lib.hid (HGw.out.trans hg); have HB1 := Lib.hid (HBw.out.grown hg (by simp)); have hpx := HB1.out.prule; clear hg)
    | (go_at_call 53; (with_reducible refine (all_any p _ l _ _ X _ HP.out (H.out.kept HG1.out)).mono ?_); rintro e w2 ⟨rfl, hg⟩; have HG2 := Lib.hid (HG1.out.trans hg); have hpy := (HB1.out.grown hg (by simp)).prule; clear hg))
  go_wp2
  go_ret
  exact ⟨rfl, HG2.out⟩
end Go.Proofs.YtnjkelojkoeihaaGreatDoor

namespace Go.Proofs.YtnjkelojkoeihaaGreatDoor
open Go

/-- What is known of a value, and stands as long as nothing that lay there is written. -/
structure Pv where
  p : Value → World → Prop
  st : ∀ {v w w'}, p v w → w.grownBy w' none → p v w'
def Pv.any : Pv := ⟨fun _ _ => True, fun _ _ => trivial⟩
def Pv.eq (u : Value) : Pv := ⟨fun v _ => v = u, fun h _ => h⟩
def Pv.sl {α : Type} (E : Enc α) (X : Nat → Prop) (xs : List α) : Pv := ⟨fun v w => Sl E X w v xs, fun h hg => h.kept hg⟩

section
variable {P : Program} {ops : Array Oper} {Q : Exit → Act → World → Prop} {n : Nat} {a0 : Act} {w0 : World}

def dstAt (ops : Array Oper) (j : Nat) : Option Tmp := (ops[j]?).bind (·.dst)
/-- Slot t is as at the start where operation i may come. -/
def keptB (ops : Array Oper) (n i : Nat) (t : Tmp) : Bool := (List.range n).all fun j => dstAt ops j != some t || Region.waitsFor .any ops j i || j == i
def pairB (ops : Array Oper) (i : Nat) (js : List (Nat × Tmp)) : Bool := js.all fun x => dstAt ops x.1 == some x.2 && Region.waitsFor .any ops i x.1
def lookB (ops : Array Oper) (n i : Nat) (js : List (Nat × Tmp)) : Bool := ((ops[i]?).map fun o => (o.looksAt ops).all fun t => js.any (·.2 == t) || keptB ops n i t).getD false
def Told (V : Pv) (dst : Option Tmp) (ds : List Deferred) (w : World) : Exit → Act → World → Prop := fun e a' w' => e = .normal ∧ a'.defers = ds ∧ V.p (match dst with | some d => a'.eval (.tmp d) | none => undef) w' ∧ w.grownBy w' none
def Ask (P : Program) (ops : Array Oper) (Vs : List Pv) (Qt : Exit → Act → World → Prop) (o : Oper) (w : World) : List (Nat × Tmp) → Act → Prop
  | [], a => wpList P ops Qt [o] a w
  | (j, d) :: js, a => ∀ x, (Vs.getD j Pv.any).p x w → Ask P ops Vs Qt o w js (a.put (some d) x)
def Mono (P : Program) (ops : Array Oper) (n : Nat) (a0 : Act) (w0 : World) (F : List Pv → Prop) : List Pv → List Oper → Prop
  | Vs, [] => F Vs
  | Vs, o :: os => ∃ (V : Pv) (js : List (Nat × Tmp)), (pairB ops Vs.length js && lookB ops n Vs.length js) = true ∧ (∀ w, w0.grownBy w none → Ask P ops Vs (Told V o.dst a0.defers w) o w js a0) ∧ Mono P ops n a0 w0 F (Vs ++ [V]) os
def Fin' (G : Act → World → Prop) (w : World) : List Pv → List Oper → Act → Prop
  | V :: Vs, o :: os, a => ∀ x, V.p x w → Fin' G w Vs os (a.put o.dst x)
  | _, _, a => G a w
/-- What may be listed ahead of operation i. -/
def av (ops : Array Oper) (i : Nat) : Nat → Nat → Bool
  | 0, k => k != i
  | f + 1, k => k != i && ((ops[k]?).map (·.after.all fun e => !Region.binds .any e || av ops i f e.on)).getD false
def tailB (ops : Array Oper) (n : Nat) : Bool :=
  (List.range ops.size).all (fun j => decide (j < n) || (List.range n).all fun i => !av ops i n j) && Region.seqB .any ops (ops.size - n) n (Array.replicate n true ++ Array.replicate (ops.size - n) false)
def topoB (ops : Array Oper) (n : Nat) : Bool := (List.range n).all fun i => ((ops[i]?).map (·.after.all fun e => !Region.binds .any e || decide (e.on < i))).getD false
def distB (ops : Array Oper) (n sz : Nat) : Bool := (List.range n).all fun i => match dstAt ops i with | none => true | some d => decide (d < sz) && (List.range n).all fun j => j == i || dstAt ops j != some d
def monoB (ops : Array Oper) (n sz : Nat) : Bool := Region.noSelect ops && decide (n ≤ ops.size) && tailB ops n && topoB ops n && distB ops n sz

theorem put_tmps (a : Act) (d : Tmp) (v : Value) : (a.put (some d) v).tmps = a.tmps.setIfInBounds d v := rfl
theorem put_size (a : Act) (dst : Option Tmp) (v : Value) : (a.put dst v).tmps.size = a.tmps.size := by
  cases dst <;> simp [Act.put]
theorem put_defers (a : Act) (dst : Option Tmp) (v : Value) : (a.put dst v).defers = a.defers := by
  cases dst <;> rfl
theorem put_at (a : Act) (d t : Tmp) (v : Value) (h : d ≠ t) : (a.put (some d) v).tmps[t]? = a.tmps[t]? := by
  simp [Act.put, Array.getElem?_setIfInBounds_ne h]
theorem eval_of (a b : Act) (t : Tmp) (h : a.tmps[t]? = b.tmps[t]?) : a.eval (.tmp t) = b.eval (.tmp t) := by
  simp [Act.eval, Array.getD_eq_getD_getElem?, h]
theorem put_own (a b : Act) (t : Tmp) (hs : a.tmps.size = b.tmps.size) : (a.put (some t) (b.eval (.tmp t))).tmps[t]? = b.tmps[t]? := by
  by_cases h : t < a.tmps.size
  · have h' : t < b.tmps.size := hs ▸ h
    simp [Act.put, Act.eval, Array.getD_eq_getD_getElem?, h, h']
  · have h' : ¬ t < b.tmps.size := hs ▸ h
    simp [Act.put, h, h']
/-- The values of b put onto a. -/
def onto (b : Act) (ds : List (Option Tmp)) (a : Act) : Act := ds.foldl (fun a d => a.put d (match d with | some d => b.eval (.tmp d) | none => undef)) a
theorem onto_size (b : Act) : ∀ (ds : List (Option Tmp)) (a : Act), (onto b ds a).tmps.size = a.tmps.size
  | [], _ => rfl
  | _ :: ds, _ => (onto_size b ds _).trans (put_size _ _ _)
theorem onto_defers (b : Act) : ∀ (ds : List (Option Tmp)) (a : Act), (onto b ds a).defers = a.defers
  | [], _ => rfl
  | _ :: ds, _ => (onto_defers b ds _).trans (put_defers _ _ _)
theorem onto_at (b : Act) (t : Tmp) : ∀ (ds : List (Option Tmp)) (a : Act), a.tmps.size = b.tmps.size → (some t ∈ ds ∨ a.tmps[t]? = b.tmps[t]?) → (onto b ds a).tmps[t]? = b.tmps[t]?
  | [], a, _, h => h.resolve_left (by simp)
  | d :: ds, a, hs, h => by
    refine onto_at b t ds _ ((put_size _ _ _).trans hs) ?_
    cases d with
    | none => exact h.imp (fun h => by simpa using h) id
    | some d =>
      by_cases e : d = t
      · subst e; exact .inr (put_own a b d hs)
      · refine h.imp (fun h => ?_) (fun h => (put_at a d t _ e).trans h)
        rcases List.mem_cons.1 h with h | h
        · injection h with h; exact absurd h.symm e
        · exact h
theorem act_ext {a b : Act} (h : ∀ t : Nat, a.tmps[t]? = b.tmps[t]?) (hd : a.defers = b.defers) : a = b := by
  obtain ⟨t1, d1⟩ := a
  obtain ⟨t2, d2⟩ := b
  obtain rfl : d1 = d2 := hd
  obtain rfl : t1 = t2 := Array.ext_getElem? h
  rfl

theorem Ask.all {Vs : List Pv} {Qt : Exit → Act → World → Prop} {o : Oper} {w : World} {b : Act} : ∀ {js : List (Nat × Tmp)} {a : Act}, (∀ x : Nat × Tmp, x ∈ js → (Vs.getD x.1 Pv.any).p (b.eval (.tmp x.2)) w) → Ask P ops Vs Qt o w js a → wpList P ops Qt [o] (onto b (js.map fun x => some x.2) a) w
  | [], _, _, h => h
  | (j, d) :: js, a, hx, h => Ask.all (js := js) (fun x hm => hx x (List.mem_cons_of_mem _ hm)) (h _ (hx (j, d) (by simp)))
theorem Fin'.all {G : Act → World → Prop} {w : World} {b : Act} : ∀ {Vs : List Pv} {os : List Oper} {a : Act}, Vs.length = os.length → (∀ (k : Nat) (V : Pv) (o : Oper), Vs[k]? = some V → os[k]? = some o → V.p (match o.dst with | some d => b.eval (.tmp d) | none => undef) w) → Fin' G w Vs os a → G (onto b (os.map (·.dst)) a) w
  | [], [], _, _, _, h => h
  | V :: Vs, o :: os, a, hl, hx, h => Fin'.all (Vs := Vs) (os := os) (by simpa using hl) (fun k V o hv ho => hx (k + 1) V o (by simpa using hv) (by simpa using ho)) (h _ (hx 0 V o rfl rfl))
  | [], _ :: _, _, hl, _, _ => by simp at hl
  | _ :: _, [], _, hl, _, _ => by simp at hl
theorem Mono.out {F : List Pv → Prop} : ∀ {os : List Oper} {Vs : List Pv}, Mono P ops n a0 w0 F Vs os → ∃ Ws : List Pv, Ws.length = os.length ∧ F (Vs ++ Ws) ∧ ∀ k o, os[k]? = some o → ∃ V js, Ws[k]? = some V ∧ (pairB ops (Vs.length + k) js && lookB ops n (Vs.length + k) js) = true ∧ ∀ w, w0.grownBy w none → Ask P ops ((Vs ++ Ws).take (Vs.length + k)) (Told V o.dst a0.defers w) o w js a0
  | [], Vs, h => ⟨[], rfl, by rw [List.append_nil]; exact h, fun k o hk => by simp at hk⟩
  | o :: os, Vs, ⟨V, js, hb, hA, hM⟩ => by
    obtain ⟨Ws, hl, hF, hk⟩ := Mono.out hM
    refine ⟨V :: Ws, by simp [hl], by simpa using hF, fun k o' ho => ?_⟩
    cases k with
    | zero =>
      obtain rfl : o = o' := by simpa using ho
      exact ⟨V, js, rfl, hb, fun w hw => by simpa using hA w hw⟩
    | succ k =>
      obtain ⟨V', js', h1, h2, h3⟩ := hk k o' (by simpa using ho)
      refine ⟨V', js', by simpa using h1, ?_, fun w hw => ?_⟩
      · simpa [Nat.add_assoc, Nat.add_comm 1 k] using h2
      · have := h3 w hw
        simpa [Nat.add_assoc, Nat.add_comm 1 k] using this

theorem Mono.weak {F G : List Pv → Prop} : ∀ {os : List Oper} {Vs : List Pv}, Mono P ops n a0 w0 F Vs os → (∀ Ws, Ws.length = Vs.length + os.length → F Ws → G Ws) → Mono P ops n a0 w0 G Vs os
  | [], Vs, h, hg => hg Vs (by simp) h
  | o :: os, Vs, ⟨V, js, hb, hA, hM⟩, hg => ⟨V, js, hb, hA, Mono.weak hM fun Ws hW => hg Ws (by simp at hW ⊢; omega)⟩
def valOf (dst : Option Tmp) (a : Act) : Value := match dst with | some d => a.eval (.tmp d) | none => undef
structure MInv (ops : Array Oper) (n : Nat) (a0 : Act) (w0 : World) (Vs : List Pv) (D : Array Bool) (a : Act) (w : World) : Prop where
  head : HeadInv .any ops n D
  grown : w0.grownBy w none
  tsize : a.tmps.size = a0.tmps.size
  defers : a.defers = a0.defers
  rest : ∀ t, (∀ j, j < n → D.getD j false = true → dstAt ops j ≠ some t) → a.tmps[t]? = a0.tmps[t]?
  known : ∀ j V, D.getD j false = true → Vs[j]? = some V → V.p (valOf (dstAt ops j) a) w
def cnt (D : Array Bool) : Nat → Nat
  | 0 => 0
  | k + 1 => cnt D k + if D.getD k false then 0 else 1
theorem cnt_set {D : Array Bool} {i : Nat} : ∀ k, (k ≤ i → cnt (D.setIfInBounds i true) k = cnt D k) ∧ (i < k → D.getD i true = false → cnt (D.setIfInBounds i true) k + 1 = cnt D k)
  | 0 => ⟨fun _ => rfl, fun h => by omega⟩
  | k + 1 => by
    obtain ⟨h1, h2⟩ := cnt_set (D := D) (i := i) k
    refine ⟨fun h => ?_, fun h hf => ?_⟩
    · simp only [cnt]
      rw [h1 (by omega), getD_set_ne false (by omega)]
    · simp only [cnt]
      by_cases e : i = k
      · subst e
        have hlt : i < D.size := by
          rcases Nat.lt_or_ge i D.size with h' | h'
          · exact h'
          · simp [Array.getElem?_eq_none h'] at hf
        rw [h1 (Nat.le_refl _), getD_both hf]
        simp [hlt]
      · have := h2 (by omega) hf
        rw [getD_set_ne false e]
        omega
theorem cnt_zero {D : Array Bool} : ∀ {k}, cnt D k = 0 → ∀ i, i < k → D.getD i false = true
  | 0, _, i, h => by omega
  | k + 1, h, i, hi => by
    simp only [cnt] at h
    by_cases e : i = k
    · subst e
      by_cases hd : D.getD i false = true
      · exact hd
      · simp [hd] at h
    · exact cnt_zero (k := k) (by omega) i (by omega)
theorem cnt_false (m : Nat) : ∀ k, cnt (Array.replicate m false) k = k
  | 0 => rfl
  | k + 1 => by simp only [cnt, cnt_false m k, getD_replicate_false]; rfl
theorem av_of {D : Array Bool} {i : Nat} (hcl : ∀ j oj, ops[j]? = some oj → D.getD j false = true → ∀ e ∈ oj.after, Region.binds .any e = true → D.getD e.on false = true) (hsz : D.size = ops.size) (hi : D.getD i false = false) : ∀ f k, D.getD k false = true → av ops i f k = true
  | 0, k, hk => by
    simp only [av, bne_iff_ne]
    rintro rfl
    rw [hi] at hk
    cases hk
  | f + 1, k, hk => by
    have hlt : k < ops.size := by
      rcases Nat.lt_or_ge k D.size with h' | h'
      · omega
      · simp [Array.getElem?_eq_none h'] at hk
    have ho : ops[k]? = some ops[k] := Array.getElem?_eq_getElem hlt
    simp only [av, ho, Option.map_some, Option.getD_some, Bool.and_eq_true, bne_iff_ne]
    refine ⟨?_, ?_⟩
    · rintro rfl
      rw [hi] at hk
      cases hk
    · rw [Array.all_eq_true_iff_forall_mem]
      intro e he
      by_cases hb : Region.binds .any e = true
      · simp [hb, av_of hcl hsz hi f e.on (hcl k _ ho hk e he hb)]
      · simp [hb]
theorem list_all_range {n : Nat} {p : Nat → Bool} (h : (List.range n).all p = true) {i : Nat} (hi : i < n) : p i = true := List.all_eq_true.1 h i (List.mem_range.2 hi)
theorem match_valOf (dst : Option Tmp) (a : Act) : (match dst with | some d => a.eval (.tmp d) | none => undef) = valOf dst a := by cases dst <;> rfl
theorem told_letsOut {V : Pv} {dst : Option Tmp} {ds : List Deferred} {w : World} : ¬ LetsOut (Told V dst ds w) := by
  rintro ⟨a, w', e, _⟩
  cases e
theorem told_op {V : Pv} {o : Oper} {a b : Act} {w : World} (hs : ∀ cs b, o.op ≠ .select cs b) (hd : ∀ d, o.dst = some d → d < a.tmps.size) (hsz : b.tmps.size = a.tmps.size) (hlook : ∀ t ∈ o.looksAt ops, b.tmps[t]? = a.tmps[t]?) {i : Nat} (hi : ops[i]? = some o)
    (hdf : b.defers = a0.defers) (h : wpList P ops (Told V o.dst a0.defers w) [o] b w) : wpOp P ops Q i (fun a' w' => ∃ v, a' = a.put o.dst v ∧ V.p (match o.dst with | some _ => v | none => undef) w' ∧ w.grownBy w' none) a w := by
  have hex : execOp b.eval o = execOp a.eval o := execOp_congr o hs fun x hx => by
    cases x with
    | tmp t => exact eval_of _ _ _ (hlook t (List.mem_append_left _ (List.mem_filterMap.2 ⟨.tmp t, by simpa using hx, rfl⟩)))
    | _ => rfl
  have hwn : Region.wanted o (yielded ops b.tmps) = Region.wanted o (yielded ops a.tmps) := by
    unfold Region.wanted
    cases hg : o.guard with
    | none => rfl
    | some gw =>
      obtain ⟨g, want⟩ := gw
      have hy : yielded ops b.tmps g = yielded ops a.tmps g := by
        unfold yielded
        cases ht : (ops[g]?).bind (·.dst) with
        | none => rfl
        | some t => simp only [Option.bind_some, hlook t (by simp [Oper.looksAt, hg, ht])]
      simp only [hy]
  have fin : ∀ v w', Told V o.dst a0.defers w .normal (b.put o.dst v) w' → ∃ v', a.put o.dst v = a.put o.dst v' ∧ V.p (match o.dst with | some _ => v' | none => undef) w' ∧ w.grownBy w' none := by
    rintro v w' ⟨_, _, h1, h2⟩
    refine ⟨v, rfl, ?_, h2⟩
    cases hdd : o.dst with
    | none => rw [hdd] at h1; exact h1
    | some d =>
      rw [hdd] at h1
      have hlt := hd d hdd
      have : (b.put (some d) v).eval (.tmp d) = v := by simp [Act.put, Act.eval, Array.getD_eq_getD_getElem?, hsz, hlt]
      simp only [this] at h1
      exact h1
  unfold wpOp
  simp only [hi]
  simp only [wpList, hwn] at h
  split
  · rename_i hw
    rw [if_pos hw] at h
    rcases h with h | h
    · left
      unfold Oper.wp at h ⊢
      rw [hex] at h
      generalize (execOp a.eval o).run P w = r at *
      cases r with
      | ok x w' =>
        cases x with
        | value v => exact fin v w' h
        | skip => exact fin undef w' h
        | enter f args =>
          refine Calls.mono h fun e w'' he => ?_
          cases e with
          | returned u => exact fin u w'' he
          | panicked c => exact absurd he.1 (by simp)
          | outgrown => exact absurd he told_letsOut
        | row row args => exact Rows.mono h fun u w'' he => fin u w'' he
        | defer d =>
          obtain ⟨_, h1, _⟩ := h
          have h1 : (Act.put { b with defers := d :: b.defers } o.dst undef).defers = a0.defers := h1
          rw [put_defers, ← hdf] at h1
          exact absurd (congrArg List.length h1) (by simp)
        | _ => exact h.elim
      | halt x w' =>
        cases x with
        | panic v => exact absurd h.1 (by simp)
        | _ => exact h.elim
    · exact absurd h.2 told_letsOut
  · rename_i hw
    rw [if_neg hw] at h
    exact fin undef w h
theorem minv_step {Vs : List Pv} {D : Array Bool} {a a' : Act} {w w' : World} {i : Nat} {o : Oper} {V : Pv} {v : Value} (inv : MInv ops n a0 w0 Vs D a w) (hd : distB ops n a0.tmps.size = true) (hi : i ∈ Region.ready .any ops D) (hin : i < n) (ho : ops[i]? = some o) (hV : Vs[i]? = some V) (hnl : Vs.length ≤ n)
    (ha : a' = a.put o.dst v) (hv : V.p (match o.dst with | some _ => v | none => undef) w') (hg : w.grownBy w' none) : MInv ops n a0 w0 Vs (D.setIfInBounds i true) a' w' := by
  subst ha
  have hdi : dstAt ops i = o.dst := by simp [dstAt, ho]
  have hun : D.getD i true = false := (mem_ready.1 hi).1
  have hlt : i < D.size := by
    rcases Nat.lt_or_ge i D.size with h' | h'
    · exact h'
    · simp [Array.getElem?_eq_none h'] at hun
  refine ⟨inv.head.set hi hin, inv.grown.trans hg, (put_size _ _ _).trans inv.tsize, (put_defers _ _ _).trans inv.defers, fun t ht => ?_, fun j W hj hW => ?_⟩
  · have h1 : o.dst ≠ some t := fun e => ht i hin (by simp [hlt]) (hdi.trans e)
    refine Eq.trans ?_ (inv.rest t fun j hj hD => ht j hj (getD_set_true hD))
    cases hdd : o.dst with
    | none => rfl
    | some d => exact put_at _ _ _ _ (fun e => h1 (by rw [hdd, e]))
  · by_cases e : i = j
    · subst e
      obtain rfl : V = W := Option.some.inj (hV.symm.trans hW)
      rw [hdi]
      cases hdd : o.dst with
      | none => rw [hdd] at hv; exact hv
      | some d =>
        rw [hdd] at hv
        have hds := list_all_range hd hin
        rw [hdi, hdd] at hds
        simp only [Bool.and_eq_true, decide_eq_true_eq] at hds
        have : (a.put (some d) v).eval (.tmp d) = v := by simp [Act.put, Act.eval, Array.getD_eq_getD_getElem?, inv.tsize, hds.1]
        show V.p ((a.put (some d) v).eval (.tmp d)) w'
        rw [this]
        exact hv
    · have hjn : j < n := by have := (List.getElem?_eq_some_iff.1 hW).1; omega
      rw [getD_set_ne false e] at hj
      have h1 := W.st (inv.known j W hj hW) hg
      cases hdj : dstAt ops j with
      | none => rw [hdj] at h1; exact h1
      | some dj =>
        rw [hdj] at h1
        have h1 : W.p (a.eval (.tmp dj)) w' := h1
        show W.p ((a.put o.dst v).eval (.tmp dj)) w'
        cases hdd : o.dst with
        | none => exact h1
        | some d =>
          have hds := list_all_range hd hin
          rw [hdi, hdd] at hds
          simp only [Bool.and_eq_true, decide_eq_true_eq] at hds
          have h2 := list_all_range hds.2 hjn
          simp only [Bool.or_eq_true, beq_iff_eq, bne_iff_ne, ne_eq] at h2
          have h3 : d ≠ dj := fun e' => (h2.resolve_left (fun e2 => e e2.symm)) (by rw [hdj, e'])
          rw [eval_of _ a dj (put_at a d dj v h3)]
          exact h1
/-- The law. -/
theorem wpAny_mono {l : List Oper} (n : Nat) (hB : monoB l.toArray n a0.tmps.size = true)
    (h : Mono P l.toArray n a0 w0 (fun Vs => ∀ w, w0.grownBy w none → Fin' (fun a w => wpList P l.toArray Q (l.drop n) a w) w Vs (l.take n) a0) [] (l.take n)) : wpAny P .any l.toArray Q l.toArray.size (Array.replicate l.toArray.size false) a0 w0 := by
  simp only [monoB, Bool.and_eq_true, decide_eq_true_eq] at hB
  obtain ⟨⟨⟨⟨hsel, hn⟩, htail⟩, htopo⟩, hdist⟩ := hB
  simp only [tailB, Bool.and_eq_true] at htail
  obtain ⟨hblk, hseq⟩ := htail
  obtain ⟨Vs, hVl, hF, hO⟩ := Mono.out h
  rw [List.nil_append] at hF
  simp only [List.nil_append, List.length_nil, Nat.zero_add] at hO
  have hnl : n ≤ l.length := by simpa using hn
  have htl : (l.take n).length = n := by simp; omega
  have hVn : Vs.length = n := hVl.trans htl
  have hdl : (l.drop n).length = l.toArray.size - n := by simp
  have hnext : ∀ i o, i < n → l.toArray[i]? = some o → (l.take n)[i]? = some o := fun i o hi ho => by
    rw [List.getElem?_take, if_pos hi]
    simpa using ho
  have key : ∀ m D a w, MInv l.toArray n a0 w0 Vs D a w → cnt D n = m → wpAny P .any l.toArray Q (m + (l.toArray.size - n)) D a w := by
    intro m
    induction m with
    | zero =>
      intro D a w inv hc
      have hall := cnt_zero hc
      have hD : D = Array.replicate n true ++ Array.replicate (l.toArray.size - n) false := by
        have hsz := inv.head.size
        refine Array.ext (by simp [hsz]; omega) fun i h1 h2 => ?_
        rw [Array.getElem_append]
        by_cases hi : i < n
        · have := hall i hi
          simp [h1] at this
          simp [hi, this]
        · have := inv.head.tail i (by omega) (by omega)
          simp [h1] at this
          simp [hi, this]
      have hk : ∀ (k : Nat) (V : Pv) (o : Oper), Vs[k]? = some V → (l.take n)[k]? = some o → V.p (match o.dst with | some d => a.eval (.tmp d) | none => undef) w := by
        intro k V o hv ho
        have hkn : k < n := by have := (List.getElem?_eq_some_iff.1 hv).1; omega
        have h1 := inv.known k V (hall k hkn) hv
        have h2 : dstAt l.toArray k = o.dst := by
          have : l[k]? = some o := by rw [List.getElem?_take, if_pos hkn] at ho; exact ho
          simp [dstAt, this]
        rw [h2] at h1
        rw [match_valOf]
        exact h1
      have hfin := Fin'.all hVl hk (hF w inv.grown)
      have hon : onto a ((l.take n).map (·.dst)) a0 = a := by
        refine act_ext (fun t => onto_at a t _ _ inv.tsize.symm ?_) ((onto_defers _ _ _).trans inv.defers.symm)
        by_cases ht : some t ∈ (l.take n).map (·.dst)
        · exact .inl ht
        · refine .inr (inv.rest t fun j hj _ e => ht ?_).symm
          have hjl : j < l.length := by omega
          have : l[j].dst = some t := by simpa [dstAt, hjl] using e
          exact List.mem_map.2 ⟨l[j], List.mem_iff_getElem?.2 ⟨j, by rw [List.getElem?_take, if_pos hj, List.getElem?_eq_getElem hjl]⟩, this⟩
      rw [hon] at hfin
      have := wpAny_of_seq (md := .any) (Q' := Q) (l.drop n) n D a w (fun j => by simp [List.getElem?_drop]) (by rw [hdl, hD]; exact hseq) hfin
      rw [hdl] at this
      rwa [Nat.zero_add]
    | succ m ih =>
      intro D a w inv hc
      have hready : ∀ i ∈ Region.ready .any l.toArray D, i < n := by
        intro i hi
        rcases Nat.lt_or_ge i n with h' | h'
        · exact h'
        · obtain ⟨hu, oi, hoi, hall⟩ := mem_ready.1 hi
          have hlt : i < l.toArray.size := (Array.getElem?_eq_some_iff.1 hoi).1
          exfalso
          obtain ⟨k, hk, hkd⟩ : ∃ k, k < n ∧ D.getD k false = false := by
            refine Classical.byContradiction fun hno => ?_
            have : ∀ k, k ≤ n → cnt D k = 0 := by
              intro k
              induction k with
              | zero => intro _; rfl
              | succ k ihk =>
                intro hk
                have h1 : D.getD k false = true := by
                  refine Classical.byContradiction fun hx => hno ⟨k, by omega, by simpa using hx⟩
                simp only [cnt, h1, ihk (by omega)]
                rfl
            rw [this n (Nat.le_refl _)] at hc
            omega
          have hb := list_all_range hblk hlt
          simp only [Bool.or_eq_true, decide_eq_true_eq] at hb
          have hb := list_all_range (hb.resolve_left (by omega)) hk
          simp only [Bool.not_eq_true'] at hb
          have hik : i ≠ k := by omega
          have : av l.toArray k n i = true := by
            have hav := fun f j hj => av_of (ops := l.toArray) inv.head.closed inv.head.size hkd f j hj
            cases hn0 : n with
            | zero => simp [av, hik]
            | succ f =>
              simp only [av, hoi, Option.map_some, Option.getD_some, Bool.and_eq_true, bne_iff_ne]
              refine ⟨hik, ?_⟩
              rw [Array.all_eq_true_iff_forall_mem]
              intro e he
              by_cases hbd : Region.binds .any e = true
              · simp [hbd, hav f e.on (hall e he hbd)]
              · simp [hbd]
          rw [hb] at this
          cases this
      have hne : Region.ready .any l.toArray D ≠ [] := by
        have hex : ∃ k, k < n ∧ D.getD k false = false ∧ ∀ j, j < k → D.getD j false = true := by
          have : ∀ k, k ≤ n → (∃ q, q < k ∧ D.getD q false = false ∧ ∀ j, j < q → D.getD j false = true) ∨ (cnt D k = 0) := by
            intro k
            induction k with
            | zero => intro _; exact .inr rfl
            | succ k ihk =>
              intro hk
              rcases ihk (by omega) with ⟨q, h1, h2⟩ | h0
              · exact .inl ⟨q, by omega, h2⟩
              · cases hq : D.getD k false with
                | true => right; simp only [cnt, hq, h0]; rfl
                | false => exact .inl ⟨k, by omega, hq, cnt_zero h0⟩
          rcases this n (Nat.le_refl _) with ⟨q, h1, h2⟩ | h0
          · exact ⟨q, h1, h2⟩
          · omega
        obtain ⟨k, hk, hkd, hbel⟩ := hex
        have hkl : k < l.toArray.size := by omega
        have ho : l.toArray[k]? = some l.toArray[k] := Array.getElem?_eq_getElem hkl
        have : k ∈ Region.ready .any l.toArray D := by
          refine mem_ready.2 ⟨getD_in (by rw [inv.head.size]; exact hkl) hkd, _, ho, fun e he hb => hbel _ ?_⟩
          have ht := list_all_range htopo hk
          simp only [ho, Option.map_some, Option.getD_some] at ht
          have := Array.all_eq_true_iff_forall_mem.1 ht e he
          simpa [hb] using this
        intro e
        rw [e] at this
        cases this
      rw [show m + 1 + (l.toArray.size - n) = (m + (l.toArray.size - n)) + 1 by omega]
      refine ⟨fun e => absurd e hne, fun i hi => ?_⟩
      have hin := hready i hi
      obtain ⟨hu, o, ho, hall⟩ := mem_ready.1 hi
      obtain ⟨V, js, hV, hchk, hask⟩ := hO i o (hnext i o hin ho)
      simp only [Bool.and_eq_true] at hchk
      obtain ⟨hpair, hlook⟩ := hchk
      have hdst : ∀ d, o.dst = some d → d < a.tmps.size := by
        intro d hd
        have := list_all_range hdist hin
        have h2 : dstAt l.toArray i = some d := by simp only [dstAt, ho]; exact hd
        rw [h2] at this
        simp only [Bool.and_eq_true, decide_eq_true_eq] at this
        rw [inv.tsize]
        exact this.1
      have hjs : ∀ x : Nat × Tmp, x ∈ js → dstAt l.toArray x.1 = some x.2 ∧ D.getD x.1 false = true ∧ x.1 < i := by
        intro x hx
        have := List.all_eq_true.1 hpair x hx
        simp only [Bool.and_eq_true, beq_iff_eq] at this
        obtain ⟨oj, hoj, e, he, hb, hon⟩ := Region.waitsFor_spec this.2
        obtain rfl : o = oj := Option.some.inj (ho.symm.trans hoj)
        have ht := list_all_range htopo hin
        simp only [ho, Option.map_some, Option.getD_some] at ht
        have ht := Array.all_eq_true_iff_forall_mem.1 ht e he
        simp only [hb, Bool.not_true, Bool.false_or, decide_eq_true_eq] at ht
        exact ⟨this.1, by rw [← hon]; exact hall e he hb, by rw [← hon]; exact ht⟩
      have hA := hask w inv.grown
      have hW := Ask.all (b := a) (fun x hx => by
        obtain ⟨h1, h2, h3⟩ := hjs x hx
        have hxl : x.1 < Vs.length := by omega
        have h4 : Vs[x.1]? = some Vs[x.1] := List.getElem?_eq_getElem hxl
        have h5 := inv.known x.1 _ h2 h4
        rw [h1] at h5
        have : (Vs.take i).getD x.1 Pv.any = Vs[x.1] := by
          rw [List.getD_eq_getElem?_getD, List.getElem?_take, if_pos h3, h4]
          rfl
        rw [this]
        exact h5) hA
      have hop := told_op (Q := Q) (ops := l.toArray) (a0 := a0) (a := a) (Region.noSelect_spec hsel i o · · ho) hdst ((onto_size _ _ _).trans inv.tsize.symm) (fun t ht => by
        refine onto_at a t _ _ inv.tsize.symm ?_
        have h1 : (o.looksAt l.toArray).all (fun t => js.any (·.2 == t) || keptB l.toArray n i t) = true := by
          simpa only [lookB, ho, Option.map_some, Option.getD_some] using hlook
        have h2 := List.all_eq_true.1 h1 t ht
        simp only [Bool.or_eq_true] at h2
        rcases h2 with h2 | h2
        · left
          obtain ⟨x, hx, hxt⟩ := List.any_eq_true.1 h2
          exact List.mem_map.2 ⟨x, hx, by rw [beq_iff_eq.1 hxt]⟩
        · right
          refine (inv.rest t fun j hj hD e => ?_).symm
          have h3 := list_all_range h2 hj
          simp only [Bool.or_eq_true, bne_iff_ne, ne_eq, beq_iff_eq] at h3
          rcases h3 with (h3 | h3) | h3
          · exact h3 e
          · obtain ⟨oj, hoj, e', he', hb', hon⟩ := Region.waitsFor_spec h3
            have := inv.head.closed j oj hoj hD e' he' hb'
            rw [hon, getD_both hu] at this
            cases this
          · subst h3
            rw [getD_both hu] at hD
            cases hD) ho (onto_defers _ _ _) hW
      refine wpOp_mono (fun a' w' hk => ?_) hop
      obtain ⟨v, ha, hv, hg⟩ := hk
      exact ih _ a' w' (minv_step inv hdist hi hin ho hV (by omega) ha hv hg) (by have := (cnt_set (D := D) (i := i) n).2 hin hu; omega)
  have h0 := key n (Array.replicate l.toArray.size false) a0 w0 ⟨⟨by simp, (fun j oj _ hD => by rw [getD_replicate_false] at hD; cases hD), fun t _ ht => by simp only [List.size_toArray] at ht ⊢; simp [ht]⟩, World.grownBy.refl w0 none, rfl, rfl, fun _ _ => rfl, (fun j V hD => by rw [getD_replicate_false] at hD; cases hD)⟩ (cnt_false _ n)
  rwa [show n + (l.toArray.size - n) = l.toArray.size by omega] at h0
/-- One operation that is carried out .. -/
theorem ask_do {V : Pv} {ds : List Deferred} {o : Oper} {a : Act} {w : World} (hw : Region.wanted o (yielded ops a.tmps) = true)
    (h : ∀ K : Act → World → Prop, (∀ a' w', a'.defers = ds → V.p (match o.dst with | some d => a'.eval (.tmp d) | none => undef) w' → w.grownBy w' none → K a' w') → o.wp P a w K (Told V o.dst ds w)) : wpList P ops (Told V o.dst ds w) [o] a w := by
  unfold wpList
  rw [if_pos hw]
  exact .inl (h _ fun a' w' h1 h2 h3 => ⟨rfl, h1, h2, h3⟩)
/-- .. or is not. -/
theorem ask_skip {V : Pv} {ds : List Deferred} {o : Oper} {a : Act} {w : World} (hw : Region.wanted o (yielded ops a.tmps) = false) (h1 : (a.put o.dst undef).defers = ds) (h2 : V.p (match o.dst with | some d => (a.put o.dst undef).eval (.tmp d) | none => undef) w) : wpList P ops (Told V o.dst ds w) [o] a w := by
  unfold wpList
  rw [if_neg (by rw [hw]; simp)]
  exact ⟨rfl, h1, h2, World.grownBy.refl w none⟩
/-- The same, over the whole row. -/
def MonoN (P : Program) (ops : Array Oper) (n : Nat) (a0 : Act) (w0 : World) (F : List Pv → List Oper → Prop) : Nat → List Pv → List Oper → Prop
  | 0, Vs, os => F Vs os
  | _ + 1, _, [] => False
  | k + 1, Vs, o :: os => ∃ (V : Pv) (js : List (Nat × Tmp)), (pairB ops Vs.length js && lookB ops n Vs.length js) = true ∧ (∀ w, w0.grownBy w none → Ask P ops Vs (Told V o.dst a0.defers w) o w js a0) ∧ MonoN P ops n a0 w0 F k (Vs ++ [V]) os
theorem MonoN.step {F : List Pv → List Oper → Prop} {k : Nat} {Vs : List Pv} {o : Oper} {os : List Oper} (V : Pv) (js : List (Nat × Tmp)) (hc : (pairB ops Vs.length js && lookB ops n Vs.length js) = true) (hA : ∀ w, w0.grownBy w none → Ask P ops Vs (Told V o.dst a0.defers w) o w js a0) (h : MonoN P ops n a0 w0 F k (Vs ++ [V]) os) : MonoN P ops n a0 w0 F (k + 1) Vs (o :: os) := ⟨V, js, hc, hA, h⟩
/-- What is behind them. -/
def FinN (P : Program) (ops : Array Oper) (Q : Exit → Act → World → Prop) (w : World) : List Pv → List Oper → Act → Prop
  | V :: Vs, o :: os, a => ∀ x, V.p x w → FinN P ops Q w Vs os (a.put o.dst x)
  | _, os, a => wpList P ops Q os a w
theorem FinN.cut {w : World} : ∀ {Vs : List Pv} {os : List Oper} {a : Act}, Vs.length ≤ os.length → FinN P ops Q w Vs os a → Fin' (fun a w => wpList P ops Q (os.drop Vs.length) a w) w Vs (os.take Vs.length) a
  | [], os, a, _, h => by
    have h : wpList P ops Q os a w := by cases os <;> exact h
    exact h
  | V :: Vs, [], a, hl, _ => by simp at hl
  | V :: Vs, o :: os, a, hl, h => fun x hx => FinN.cut (Vs := Vs) (os := os) (by simpa using hl) (h x hx)
theorem MonoN.cut {F : List Pv → List Oper → Prop} : ∀ {k : Nat} {Vs : List Pv} {os : List Oper}, MonoN P ops n a0 w0 F k Vs os → Mono P ops n a0 w0 (fun Ws => F Ws (os.drop k)) Vs (os.take k) ∧ k ≤ os.length
  | 0, Vs, os, h => ⟨by cases os <;> exact h, Nat.zero_le _⟩
  | k + 1, Vs, [], h => h.elim
  | k + 1, Vs, o :: os, ⟨V, js, hc, hA, h⟩ => ⟨⟨V, js, hc, hA, (MonoN.cut h).1⟩, by simpa using (MonoN.cut h).2⟩
theorem wpAny_monoN {l : List Oper} (n : Nat) (hB : monoB l.toArray n a0.tmps.size = true)
    (h : MonoN P l.toArray n a0 w0 (fun Vs _ => ∀ w, w0.grownBy w none → FinN P l.toArray Q w Vs l a0) n [] l) : wpAny P .any l.toArray Q l.toArray.size (Array.replicate l.toArray.size false) a0 w0 := by
  obtain ⟨hM, hn⟩ := MonoN.cut h
  obtain ⟨Vs, hVl, hF, hO⟩ := Mono.out hM
  have hVn : Vs.length = n := by rw [hVl]; simp; omega
  refine wpAny_mono n hB (Mono.weak hM fun Ws hW hF w hw => ?_)
  have := FinN.cut (by rw [hW]; simp; omega) (hF w hw)
  rw [show Ws.length = n by rw [hW]; simp; omega] at this
  exact this
/-- The same, with what is known in the row in which it came, the last first. -/
def MonoR (P : Program) (ops : Array Oper) (n : Nat) (a0 : Act) (w0 : World) (F : List Pv → Prop) : Nat → List Pv → List Oper → Prop
  | 0, Rs, _ => F Rs.reverse
  | _ + 1, _, [] => False
  | k + 1, Rs, o :: os => ∃ (V : Pv) (js : List (Nat × Tmp)), (pairB ops Rs.length js && lookB ops n Rs.length js) = true ∧ (∀ w, w0.grownBy w none → Ask P ops Rs.reverse (Told V o.dst a0.defers w) o w js a0) ∧ MonoR P ops n a0 w0 F k (V :: Rs) os
theorem MonoR.step {F : List Pv → Prop} {k : Nat} {Rs : List Pv} {o : Oper} {os : List Oper} (V : Pv) (js : List (Nat × Tmp)) (hc : (pairB ops Rs.length js && lookB ops n Rs.length js) = true) (hA : ∀ w, w0.grownBy w none → Ask P ops Rs.reverse (Told V o.dst a0.defers w) o w js a0) (h : MonoR P ops n a0 w0 F k (V :: Rs) os) : MonoR P ops n a0 w0 F (k + 1) Rs (o :: os) := ⟨V, js, hc, hA, h⟩
theorem MonoR.up {F : List Pv → Prop} : ∀ {k : Nat} {Rs : List Pv} {os : List Oper}, MonoR P ops n a0 w0 F k Rs os → MonoN P ops n a0 w0 (fun Vs _ => F Vs) k Rs.reverse os
  | 0, _, _, h => h
  | _ + 1, _, [], h => h.elim
  | k + 1, Rs, o :: os, ⟨V, js, hc, hA, h⟩ => ⟨V, js, by rw [List.length_reverse]; exact hc, hA, by have := MonoR.up h; rwa [List.reverse_cons] at this⟩
theorem wpAny_monoR {l : List Oper} (n : Nat) (hB : monoB l.toArray n a0.tmps.size = true)
    (h : MonoR P l.toArray n a0 w0 (fun Vs => ∀ w, w0.grownBy w none → FinN P l.toArray Q w Vs l a0) n [] l) : wpAny P .any l.toArray Q l.toArray.size (Array.replicate l.toArray.size false) a0 w0 :=
  wpAny_monoN n hB (MonoR.up h)
theorem wp_region_mono {l : List Oper} {id : Nat} (n : Nat) (hm : P.follows .mixedOrders = true) (hB : monoB l.toArray n a0.tmps.size = true)
    (h : MonoR P l.toArray n a0 w0.drew (fun Vs => ∀ w, w0.drew.grownBy w none → FinN P l.toArray Q w Vs l a0) n [] l) : (Code.region id l.toArray true).wp P Q a0 w0 :=
  wp_region_any hm (wpAny_monoR n hB h)
end
def TT : Nat → Prop := fun _ => True
/-- Things laid one behind the other into a new block. -/
def RepL {α : Type} (E : Enc α) (w : World) : List (List Value) → List α → Prop
  | [], [] => True
  | c :: cs, x :: xs => E.rep TT w c x ∧ RepL E w cs xs
  | _, _ => False
theorem RepL.out {α : Type} {E : Enc α} {w : World} : ∀ {css : List (List Value)} {xs : List α}, RepL E w css xs → css.length = xs.length ∧ ∀ i (h : i < xs.length) (h' : i < css.length), E.rep TT w css[i] xs[i]
  | [], [], _ => ⟨rfl, fun i h => by simp at h⟩
  | c :: cs, x :: xs, ⟨h1, h2⟩ => by
    obtain ⟨k1, k2⟩ := RepL.out h2
    refine ⟨by simp [k1], fun i h h' => ?_⟩
    cases i with
    | zero => exact h1
    | succ i => exact k2 i (by simpa using h) (by simpa using h')
theorem RepL.kept {α : Type} {E : Enc α} {w w' : World} (hg : w.grownBy w' none) : ∀ {css : List (List Value)} {xs : List α}, RepL E w css xs → RepL E w' css xs
  | [], [], _ => trivial
  | _ :: _, _ :: _, ⟨h1, h2⟩ => ⟨E.keep h1 hg (by simp), RepL.kept hg h2⟩
theorem Sl.build {α : Type} {E : Enc α} {w : World} {t : TypeId} {cs : Array Value} {xs : List α} {n : Nat} (css : List (List Value)) (hn : xs.length = n) (hr : RepL E w css xs) (hc : cs.toList = css.flatten) (hb : n ≤ 9223372036854775807) : Sl E TT (w.alloc (.cells cs t)) (.slice (some ⟨w.heap.size, 0, none⟩) n n) xs := by
  subst hn
  obtain ⟨h1, h2⟩ := (hr.kept (World.grownBy_alloc w (.cells cs t) none)).out
  exact Sl.block (Bk.new w t cs) trivial css h1 h2 hc (Nat.le_refl _) hb
end Go.Proofs.YtnjkelojkoeihaaGreatDoor

namespace Go.Proofs.YtnjkelojkoeihaaGreatDoor
open Go

section
variable {P : Program} {ops : Array Oper} {Q : Exit → Act → World → Prop} {n : Nat} {a0 : Act} {w0 : World}

def ToldC (u : Value) (dst : Option Tmp) (ds : List Deferred) (K : World → Prop) : Exit → Act → World → Prop := fun e a' w' => e = .normal ∧ a'.defers = ds ∧ (match dst with | some d => a'.eval (.tmp d) | none => undef) = u ∧ K w'
def FlagR (P : Program) (ops : Array Oper) (n : Nat) (a0 : Act) (C : Array Bool → World → Prop) (us : List Value) : Nat → Nat → List Oper → Prop
  | 0, _, _ => True
  | _ + 1, _, [] => False
  | k + 1, i, o :: os => (∃ js : List (Nat × Tmp), (pairB ops i js && lookB ops n i js) = true ∧ ∀ D w, D.size = ops.size → D.getD i false = false → (∀ k, av ops i n k = false → D.getD k false = false) → C D w → Ask P ops (us.map Pv.eq) (ToldC (us.getD i undef) o.dst a0.defers (C (D.setIfInBounds i true))) o w js a0) ∧ FlagR P ops n a0 C us k (i + 1) os
theorem FlagR.out {C : Array Bool → World → Prop} {us : List Value} : ∀ {k i : Nat} {os : List Oper}, FlagR P ops n a0 C us k i os → ∀ m o, m < k → os[m]? = some o → ∃ js : List (Nat × Tmp), (pairB ops (i + m) js && lookB ops n (i + m) js) = true ∧ ∀ D w, D.size = ops.size → D.getD (i + m) false = false → (∀ k, av ops (i + m) n k = false → D.getD k false = false) → C D w → Ask P ops (us.map Pv.eq) (ToldC (us.getD (i + m) undef) o.dst a0.defers (C (D.setIfInBounds (i + m) true))) o w js a0
  | 0, _, _, _, m, o, hm, _ => by omega
  | _ + 1, _, [], h, _, _, _, _ => h.elim
  | k + 1, i, o :: os, h, m, o', hm, ho => by
    cases m with
    | zero =>
      obtain rfl : o = o' := by simpa using ho
      exact h.1
    | succ m =>
      have := FlagR.out h.2 m o' (by omega) (by simpa using ho)
      rwa [show i + 1 + m = i + (m + 1) by omega] at this
theorem FlagR.step {C : Array Bool → World → Prop} {us : List Value} {k i : Nat} {o : Oper} {os : List Oper} (js : List (Nat × Tmp)) (hc : (pairB ops i js && lookB ops n i js) = true) (hA : ∀ D w, D.size = ops.size → D.getD i false = false → (∀ k, av ops i n k = false → D.getD k false = false) → C D w → Ask P ops (us.map Pv.eq) (ToldC (us.getD i undef) o.dst a0.defers (C (D.setIfInBounds i true))) o w js a0) (h : FlagR P ops n a0 C us k (i + 1) os) : FlagR P ops n a0 C us (k + 1) i (o :: os) := ⟨⟨js, hc, hA⟩, h⟩
structure FInv (ops : Array Oper) (n : Nat) (a0 : Act) (C : Array Bool → World → Prop) (us : List Value) (D : Array Bool) (a : Act) (w : World) : Prop where
  head : HeadInv .any ops n D
  cls : C D w
  tsize : a.tmps.size = a0.tmps.size
  defers : a.defers = a0.defers
  rest : ∀ t, (∀ j, j < n → D.getD j false = true → dstAt ops j ≠ some t) → a.tmps[t]? = a0.tmps[t]?
  known : ∀ j u, D.getD j false = true → us[j]? = some u → valOf (dstAt ops j) a = u
theorem toldC_letsOut {u : Value} {dst : Option Tmp} {ds : List Deferred} {K : World → Prop} : ¬ LetsOut (ToldC u dst ds K) := by
  rintro ⟨a, w', e, _⟩
  cases e
theorem toldC_op {u : Value} {K : World → Prop} {o : Oper} {a b : Act} {w : World} (hs : ∀ cs b, o.op ≠ .select cs b) (hd : ∀ d, o.dst = some d → d < a.tmps.size) (hsz : b.tmps.size = a.tmps.size) (hlook : ∀ t ∈ o.looksAt ops, b.tmps[t]? = a.tmps[t]?) {i : Nat} (hi : ops[i]? = some o)
    (hdf : b.defers = a0.defers) (h : wpList P ops (ToldC u o.dst a0.defers K) [o] b w) : wpOp P ops Q i (fun a' w' => ∃ v, a' = a.put o.dst v ∧ (match o.dst with | some _ => v | none => undef) = u ∧ K w') a w := by
  have hex : execOp b.eval o = execOp a.eval o := execOp_congr o hs fun x hx => by
    cases x with
    | tmp t => exact eval_of _ _ _ (hlook t (List.mem_append_left _ (List.mem_filterMap.2 ⟨.tmp t, by simpa using hx, rfl⟩)))
    | _ => rfl
  have hwn : Region.wanted o (yielded ops b.tmps) = Region.wanted o (yielded ops a.tmps) := by
    unfold Region.wanted
    cases hg : o.guard with
    | none => rfl
    | some gw =>
      obtain ⟨g, want⟩ := gw
      have hy : yielded ops b.tmps g = yielded ops a.tmps g := by
        unfold yielded
        cases ht : (ops[g]?).bind (·.dst) with
        | none => rfl
        | some t => simp only [Option.bind_some, hlook t (by simp [Oper.looksAt, hg, ht])]
      simp only [hy]
  have fin : ∀ v w', ToldC u o.dst a0.defers K .normal (b.put o.dst v) w' → ∃ v', a.put o.dst v = a.put o.dst v' ∧ (match o.dst with | some _ => v' | none => undef) = u ∧ K w' := by
    rintro v w' ⟨_, _, h1, h2⟩
    refine ⟨v, rfl, ?_, h2⟩
    cases hdd : o.dst with
    | none => rw [hdd] at h1; exact h1
    | some d =>
      rw [hdd] at h1
      have hlt := hd d hdd
      have : (b.put (some d) v).eval (.tmp d) = v := by simp [Act.put, Act.eval, Array.getD_eq_getD_getElem?, hsz, hlt]
      simp only [this] at h1
      exact h1
  unfold wpOp
  simp only [hi]
  simp only [wpList, hwn] at h
  split
  · rename_i hw
    rw [if_pos hw] at h
    rcases h with h | h
    · left
      unfold Oper.wp at h ⊢
      rw [hex] at h
      generalize (execOp a.eval o).run P w = r at *
      cases r with
      | ok x w' =>
        cases x with
        | value v => exact fin v w' h
        | skip => exact fin undef w' h
        | enter f args =>
          refine Calls.mono h fun e w'' he => ?_
          cases e with
          | returned u => exact fin u w'' he
          | panicked c => exact absurd he.1 (by simp)
          | outgrown => exact absurd he toldC_letsOut
        | row row args => exact Rows.mono h fun u w'' he => fin u w'' he
        | defer d =>
          obtain ⟨_, h1, _⟩ := h
          have h1 : (Act.put { b with defers := d :: b.defers } o.dst undef).defers = a0.defers := h1
          rw [put_defers, ← hdf] at h1
          exact absurd (congrArg List.length h1) (by simp)
        | _ => exact h.elim
      | halt x w' =>
        cases x with
        | panic v => exact absurd h.1 (by simp)
        | _ => exact h.elim
    · exact absurd h.2 toldC_letsOut
  · rename_i hw
    rw [if_neg hw] at h
    exact fin undef w h
theorem finv_step {C : Array Bool → World → Prop} {us : List Value} {D : Array Bool} {a a' : Act} {w w' : World} {i : Nat} {o : Oper} {v : Value} (inv : FInv ops n a0 C us D a w) (hd : distB ops n a0.tmps.size = true) (hi : i ∈ Region.ready .any ops D) (hin : i < n) (ho : ops[i]? = some o) (hnl : us.length ≤ n)
    (ha : a' = a.put o.dst v) (hv : (match o.dst with | some _ => v | none => undef) = us.getD i undef) (hg : C (D.setIfInBounds i true) w') : FInv ops n a0 C us (D.setIfInBounds i true) a' w' := by
  subst ha
  have hdi : dstAt ops i = o.dst := by simp [dstAt, ho]
  have hun : D.getD i true = false := (mem_ready.1 hi).1
  have hlt : i < D.size := by
    rcases Nat.lt_or_ge i D.size with h' | h'
    · exact h'
    · simp [Array.getElem?_eq_none h'] at hun
  refine ⟨inv.head.set hi hin, hg, (put_size _ _ _).trans inv.tsize, (put_defers _ _ _).trans inv.defers, fun t ht => ?_, fun j W hj hW => ?_⟩
  · have h1 : o.dst ≠ some t := fun e => ht i hin (by simp [hlt]) (hdi.trans e)
    refine Eq.trans ?_ (inv.rest t fun j hj hD => ht j hj (getD_set_true hD))
    cases hdd : o.dst with
    | none => rfl
    | some d => exact put_at _ _ _ _ (fun e => h1 (by rw [hdd, e]))
  · by_cases e : i = j
    · subst e
      have hWe : us.getD i undef = W := by rw [List.getD_eq_getElem?_getD, hW]; rfl
      rw [hWe] at hv
      rw [hdi]
      cases hdd : o.dst with
      | none => rw [hdd] at hv; exact hv
      | some d =>
        rw [hdd] at hv
        have hds := list_all_range hd hin
        rw [hdi, hdd] at hds
        simp only [Bool.and_eq_true, decide_eq_true_eq] at hds
        have : (a.put (some d) v).eval (.tmp d) = v := by simp [Act.put, Act.eval, Array.getD_eq_getD_getElem?, inv.tsize, hds.1]
        show (a.put (some d) v).eval (.tmp d) = W
        rw [this]
        exact hv
    · have hjn : j < n := by have := (List.getElem?_eq_some_iff.1 hW).1; omega
      rw [getD_set_ne false e] at hj
      have h1 := inv.known j W hj hW
      cases hdj : dstAt ops j with
      | none => rw [hdj] at h1; exact h1
      | some dj =>
        rw [hdj] at h1
        have h1 : a.eval (.tmp dj) = W := h1
        show (a.put o.dst v).eval (.tmp dj) = W
        cases hdd : o.dst with
        | none => exact h1
        | some d =>
          have hds := list_all_range hd hin
          rw [hdi, hdd] at hds
          simp only [Bool.and_eq_true, decide_eq_true_eq] at hds
          have h2 := list_all_range hds.2 hjn
          simp only [Bool.or_eq_true, beq_iff_eq, bne_iff_ne, ne_eq] at h2
          have h3 : d ≠ dj := fun e' => (h2.resolve_left (fun e2 => e e2.symm)) (by rw [hdj, e'])
          rw [eval_of _ a dj (put_at a d dj v h3)]
          exact h1
/-- The law. -/
theorem wpAny_flag {l : List Oper} (n : Nat) (C : Array Bool → World → Prop) (us : List Value) (hB : monoB l.toArray n a0.tmps.size = true) (hul : us.length = n) (hC0 : C (Array.replicate l.toArray.size false) w0)
    (h : FlagR P l.toArray n a0 C us n 0 l) (hF : ∀ D w, (∀ i, i < n → D.getD i false = true) → C D w → FinN P l.toArray Q w (us.map Pv.eq) l a0) : wpAny P .any l.toArray Q l.toArray.size (Array.replicate l.toArray.size false) a0 w0 := by
  simp only [monoB, Bool.and_eq_true, decide_eq_true_eq] at hB
  obtain ⟨⟨⟨⟨hsel, hn⟩, htail⟩, htopo⟩, hdist⟩ := hB
  simp only [tailB, Bool.and_eq_true] at htail
  obtain ⟨hblk, hseq⟩ := htail
  have hnl : n ≤ l.length := by simpa using hn
  have htl : (l.take n).length = n := by simp; omega
  have hVn : us.length = n := hul
  have hdl : (l.drop n).length = l.toArray.size - n := by simp
  have hnext : ∀ i o, i < n → l.toArray[i]? = some o → (l.take n)[i]? = some o := fun i o hi ho => by
    rw [List.getElem?_take, if_pos hi]
    simpa using ho
  have key : ∀ m D a w, FInv l.toArray n a0 C us D a w → cnt D n = m → wpAny P .any l.toArray Q (m + (l.toArray.size - n)) D a w := by
    intro m
    induction m with
    | zero =>
      intro D a w inv hc
      have hall := cnt_zero hc
      have hD : D = Array.replicate n true ++ Array.replicate (l.toArray.size - n) false := by
        have hsz := inv.head.size
        refine Array.ext (by simp [hsz]; omega) fun i h1 h2 => ?_
        rw [Array.getElem_append]
        by_cases hi : i < n
        · have := hall i hi
          simp [h1] at this
          simp [hi, this]
        · have := inv.head.tail i (by omega) (by omega)
          simp [h1] at this
          simp [hi, this]
      have hlen : (us.map Pv.eq).length = (l.take n).length := by rw [List.length_map, hul, htl]
      have hk : ∀ (k : Nat) (V : Pv) (o : Oper), (us.map Pv.eq)[k]? = some V → (l.take n)[k]? = some o → V.p (match o.dst with | some d => a.eval (.tmp d) | none => undef) w := by
        intro k V o hv ho
        rw [List.getElem?_map] at hv
        obtain ⟨u, hu, rfl⟩ := Option.map_eq_some_iff.1 hv
        have hkn : k < n := by have := (List.getElem?_eq_some_iff.1 hu).1; omega
        have h1 := inv.known k u (hall k hkn) hu
        have h2 : dstAt l.toArray k = o.dst := by
          have : l[k]? = some o := by rw [List.getElem?_take, if_pos hkn] at ho; exact ho
          simp [dstAt, this]
        rw [h2] at h1
        refine Eq.trans ?_ h1
        unfold valOf; cases o.dst <;> rfl
      have hcut := FinN.cut (Vs := us.map Pv.eq) (os := l) (by rw [List.length_map]; omega) (hF D w hall inv.cls)
      rw [show (us.map Pv.eq).length = n by rw [List.length_map]; exact hul] at hcut
      have hfin := Fin'.all hlen hk hcut
      have hon : onto a ((l.take n).map (·.dst)) a0 = a := by
        refine act_ext (fun t => onto_at a t _ _ inv.tsize.symm ?_) ((onto_defers _ _ _).trans inv.defers.symm)
        by_cases ht : some t ∈ (l.take n).map (·.dst)
        · exact .inl ht
        · refine .inr (inv.rest t fun j hj _ e => ht ?_).symm
          have hjl : j < l.length := by omega
          have : l[j].dst = some t := by simpa [dstAt, hjl] using e
          exact List.mem_map.2 ⟨l[j], List.mem_iff_getElem?.2 ⟨j, by rw [List.getElem?_take, if_pos hj, List.getElem?_eq_getElem hjl]⟩, this⟩
      rw [hon] at hfin
      have := wpAny_of_seq (md := .any) (Q' := Q) (l.drop n) n D a w (fun j => by simp [List.getElem?_drop]) (by rw [hdl, hD]; exact hseq) hfin
      rw [hdl] at this
      rwa [Nat.zero_add]
    | succ m ih =>
      intro D a w inv hc
      have hready : ∀ i ∈ Region.ready .any l.toArray D, i < n := by
        intro i hi
        rcases Nat.lt_or_ge i n with h' | h'
        · exact h'
        · obtain ⟨hu, oi, hoi, hall⟩ := mem_ready.1 hi
          have hlt : i < l.toArray.size := (Array.getElem?_eq_some_iff.1 hoi).1
          exfalso
          obtain ⟨k, hk, hkd⟩ : ∃ k, k < n ∧ D.getD k false = false := by
            refine Classical.byContradiction fun hno => ?_
            have : ∀ k, k ≤ n → cnt D k = 0 := by
              intro k
              induction k with
              | zero => intro _; rfl
              | succ k ihk =>
                intro hk
                have h1 : D.getD k false = true := by
                  refine Classical.byContradiction fun hx => hno ⟨k, by omega, by simpa using hx⟩
                simp only [cnt, h1, ihk (by omega)]
                rfl
            rw [this n (Nat.le_refl _)] at hc
            omega
          have hb := list_all_range hblk hlt
          simp only [Bool.or_eq_true, decide_eq_true_eq] at hb
          have hb := list_all_range (hb.resolve_left (by omega)) hk
          simp only [Bool.not_eq_true'] at hb
          have hik : i ≠ k := by omega
          have : av l.toArray k n i = true := by
            have hav := fun f j hj => av_of (ops := l.toArray) inv.head.closed inv.head.size hkd f j hj
            cases hn0 : n with
            | zero => simp [av, hik]
            | succ f =>
              simp only [av, hoi, Option.map_some, Option.getD_some, Bool.and_eq_true, bne_iff_ne]
              refine ⟨hik, ?_⟩
              rw [Array.all_eq_true_iff_forall_mem]
              intro e he
              by_cases hbd : Region.binds .any e = true
              · simp [hbd, hav f e.on (hall e he hbd)]
              · simp [hbd]
          rw [hb] at this
          cases this
      have hne : Region.ready .any l.toArray D ≠ [] := by
        have hex : ∃ k, k < n ∧ D.getD k false = false ∧ ∀ j, j < k → D.getD j false = true := by
          have : ∀ k, k ≤ n → (∃ q, q < k ∧ D.getD q false = false ∧ ∀ j, j < q → D.getD j false = true) ∨ (cnt D k = 0) := by
            intro k
            induction k with
            | zero => intro _; exact .inr rfl
            | succ k ihk =>
              intro hk
              rcases ihk (by omega) with ⟨q, h1, h2⟩ | h0
              · exact .inl ⟨q, by omega, h2⟩
              · cases hq : D.getD k false with
                | true => right; simp only [cnt, hq, h0]; rfl
                | false => exact .inl ⟨k, by omega, hq, cnt_zero h0⟩
          rcases this n (Nat.le_refl _) with ⟨q, h1, h2⟩ | h0
          · exact ⟨q, h1, h2⟩
          · omega
        obtain ⟨k, hk, hkd, hbel⟩ := hex
        have hkl : k < l.toArray.size := by omega
        have ho : l.toArray[k]? = some l.toArray[k] := Array.getElem?_eq_getElem hkl
        have : k ∈ Region.ready .any l.toArray D := by
          refine mem_ready.2 ⟨getD_in (by rw [inv.head.size]; exact hkl) hkd, _, ho, fun e he hb => hbel _ ?_⟩
          have ht := list_all_range htopo hk
          simp only [ho, Option.map_some, Option.getD_some] at ht
          have := Array.all_eq_true_iff_forall_mem.1 ht e he
          simpa [hb] using this
        intro e
        rw [e] at this
        cases this
      rw [show m + 1 + (l.toArray.size - n) = (m + (l.toArray.size - n)) + 1 by omega]
      refine ⟨fun e => absurd e hne, fun i hi => ?_⟩
      have hin := hready i hi
      obtain ⟨hu, o, ho, hall⟩ := mem_ready.1 hi
      obtain ⟨js, hchk, hask⟩ := FlagR.out h i o hin (by simpa using ho)
      simp only [Nat.zero_add, Bool.and_eq_true] at hchk hask
      obtain ⟨hpair, hlook⟩ := hchk
      have hdst : ∀ d, o.dst = some d → d < a.tmps.size := by
        intro d hd
        have := list_all_range hdist hin
        have h2 : dstAt l.toArray i = some d := by simp only [dstAt, ho]; exact hd
        rw [h2] at this
        simp only [Bool.and_eq_true, decide_eq_true_eq] at this
        rw [inv.tsize]
        exact this.1
      have hjs : ∀ x : Nat × Tmp, x ∈ js → dstAt l.toArray x.1 = some x.2 ∧ D.getD x.1 false = true ∧ x.1 < i := by
        intro x hx
        have := List.all_eq_true.1 hpair x hx
        simp only [Bool.and_eq_true, beq_iff_eq] at this
        obtain ⟨oj, hoj, e, he, hb, hon⟩ := Region.waitsFor_spec this.2
        obtain rfl : o = oj := Option.some.inj (ho.symm.trans hoj)
        have ht := list_all_range htopo hin
        simp only [ho, Option.map_some, Option.getD_some] at ht
        have ht := Array.all_eq_true_iff_forall_mem.1 ht e he
        simp only [hb, Bool.not_true, Bool.false_or, decide_eq_true_eq] at ht
        exact ⟨this.1, by rw [← hon]; exact hall e he hb, by rw [← hon]; exact ht⟩
      have hA := hask D w inv.head.size (getD_both hu) (fun k hk => by
        cases hdk : D.getD k false with
        | false => rfl
        | true => rw [av_of (ops := l.toArray) inv.head.closed inv.head.size (getD_both hu) n k hdk] at hk; cases hk) inv.cls
      have hW := Ask.all (b := a) (fun x hx => by
        obtain ⟨h1, h2, h3⟩ := hjs x hx
        have hxl : x.1 < us.length := by omega
        have h4 : us[x.1]? = some us[x.1] := List.getElem?_eq_getElem hxl
        have h5 := inv.known x.1 _ h2 h4
        rw [h1] at h5
        have : (us.map Pv.eq).getD x.1 Pv.any = Pv.eq us[x.1] := by
          rw [List.getD_eq_getElem?_getD, List.getElem?_map, h4]
          rfl
        rw [this]
        exact h5) hA
      have hop := toldC_op (Q := Q) (ops := l.toArray) (a0 := a0) (a := a) (Region.noSelect_spec hsel i o · · ho) hdst ((onto_size _ _ _).trans inv.tsize.symm) (fun t ht => by
        refine onto_at a t _ _ inv.tsize.symm ?_
        have h1 : (o.looksAt l.toArray).all (fun t => js.any (·.2 == t) || keptB l.toArray n i t) = true := by
          simpa only [lookB, ho, Option.map_some, Option.getD_some] using hlook
        have h2 := List.all_eq_true.1 h1 t ht
        simp only [Bool.or_eq_true] at h2
        rcases h2 with h2 | h2
        · left
          obtain ⟨x, hx, hxt⟩ := List.any_eq_true.1 h2
          exact List.mem_map.2 ⟨x, hx, by rw [beq_iff_eq.1 hxt]⟩
        · right
          refine (inv.rest t fun j hj hD e => ?_).symm
          have h3 := list_all_range h2 hj
          simp only [Bool.or_eq_true, bne_iff_ne, ne_eq, beq_iff_eq] at h3
          rcases h3 with (h3 | h3) | h3
          · exact h3 e
          · obtain ⟨oj, hoj, e', he', hb', hon⟩ := Region.waitsFor_spec h3
            have := inv.head.closed j oj hoj hD e' he' hb'
            rw [hon, getD_both hu] at this
            cases this
          · subst h3
            rw [getD_both hu] at hD
            cases hD) ho (onto_defers _ _ _) hW
      refine wpOp_mono (fun a' w' hk => ?_) hop
      obtain ⟨v, ha, hv, hg⟩ := hk
      exact ih _ a' w' (finv_step inv hdist hi hin ho (by omega) ha hv hg) (by have := (cnt_set (D := D) (i := i) n).2 hin hu; omega)
  have h0 := key n (Array.replicate l.toArray.size false) a0 w0 ⟨⟨by simp, (fun j oj _ hD => by rw [getD_replicate_false] at hD; cases hD), fun t _ ht => by simp only [List.size_toArray] at ht ⊢; simp [ht]⟩, hC0, rfl, rfl, fun _ _ => rfl, (fun j V hD => by rw [getD_replicate_false] at hD; cases hD)⟩ (cnt_false _ n)
  rwa [show n + (l.toArray.size - n) = l.toArray.size by omega] at h0
theorem askc_do {u : Value} {K : World → Prop} {ds : List Deferred} {o : Oper} {a : Act} {w : World} (hw : Region.wanted o (yielded ops a.tmps) = true)
    (h : ∀ K' : Act → World → Prop, (∀ a' w', a'.defers = ds → (match o.dst with | some d => a'.eval (.tmp d) | none => undef) = u → K w' → K' a' w') → o.wp P a w K' (ToldC u o.dst ds K)) : wpList P ops (ToldC u o.dst ds K) [o] a w := by
  unfold wpList
  rw [if_pos hw]
  exact .inl (h _ fun a' w' h1 h2 h3 => ⟨rfl, h1, h2, h3⟩)
theorem wp_region_flag {l : List Oper} {id : Nat} (n : Nat) (C : Array Bool → World → Prop) (us : List Value) (hm : P.follows .mixedOrders = true) (hB : monoB l.toArray n a0.tmps.size = true) (hul : us.length = n) (hC0 : C (Array.replicate l.toArray.size false) w0.drew)
    (h : FlagR P l.toArray n a0 C us n 0 l) (hF : ∀ D w, (∀ i, i < n → D.getD i false = true) → C D w → FinN P l.toArray Q w (us.map Pv.eq) l a0) : (Code.region id l.toArray true).wp P Q a0 w0 :=
  wp_region_any hm (wpAny_flag n C us hB hul hC0 h hF)
end
end Go.Proofs.YtnjkelojkoeihaaGreatDoor

namespace Go.Proofs.YtnjkelojkoeihaaGreatDoor
open Go.RowKit

theorem add_gr (a b m : Int) (w : World) (ha : U64 a) (hb : U64 b) :
    Calls Tryz.prog 65 #[.int .u64 a, .int .u64 b, .int .u64 m] w fun e w' => e = .returned (.int .u64 (addI a b m)) ∧ w.grownBy w' none :=
  (add_any a b m w ha hb).mono fun _ _ ⟨he, n, hn⟩ => ⟨he, by rw [hn]; exact grownBy_drewN (World.grownBy.refl w none) n⟩
theorem sub_gr (a b m : Int) (w : World) (ha : U64 a) (hb : U64 b) :
    Calls Tryz.prog 134 #[.int .u64 a, .int .u64 b, .int .u64 m] w fun e w' => e = .returned (.int .u64 (subI a b m)) ∧ w.grownBy w' none :=
  (sub_any a b m w ha hb).mono fun _ _ ⟨he, n, hn⟩ => ⟨he, by rw [hn]; exact grownBy_drewN (World.grownBy.refl w none) n⟩
theorem mul_gr (a b m : Int) (w : World) (ha : U64 a) (hb : U64 b) :
    Calls Tryz.prog 66 #[.int .u64 a, .int .u64 b, .int .u64 m] w fun e w' => e = .returned (.int .u64 (mulI a b m)) ∧ w.grownBy w' none :=
  (mul_any a b m w ha hb).mono fun _ _ ⟨he, n, hn⟩ => ⟨he, by rw [hn]; exact grownBy_drewN (World.grownBy.refl w none) n⟩
theorem emod_U64 (a m : Int) (ha : U64 a) (hm : 0 < m) : U64 (a % m) := by
  obtain ⟨a0, a1⟩ := ha
  have h1 := Int.emod_nonneg a (show m ≠ 0 by omega)
  have h3 := Int.mul_nonneg (Int.le_of_lt hm) (Int.ediv_nonneg a0 (Int.le_of_lt hm))
  have h4 := Int.mul_ediv_add_emod a m
  exact ⟨h1, by omega⟩
end Go.Proofs.YtnjkelojkoeihaaGreatDoor

namespace Go.Proofs.YtnjkelojkoeihaaGreatDoor
open Go

section
variable {P : Program} {ops : Array Oper} {md : Region.Mode} {Q : Exit → Act → World → Prop} {n nn : Nat} {a0 : Act} {w0 : World}
theorem wpAnyIn_seq {F : Fence} : ∀ (l : List Oper) (k : Nat) (listed : Array Bool) (a : Act) (w : World), (∀ j, l[j]? = ops[k + j]?) →
    Region.seqB md ops l.length k listed = true → wpListIn F nn P ops Q l a w → wpAnyIn F nn P md ops Q l.length listed a w
  | [], _, _, _, _, _, hB, h => ⟨by simpa [Region.seqB] using hB, h⟩
  | o :: l, k, listed, a, w, hl, hB, h => by
    have h0 : ops[k]? = some o := by simpa using (hl 0).symm
    simp only [List.length_cons, Region.seqB, Bool.and_eq_true, decide_eq_true_eq] at hB
    refine ⟨fun h1 => (by rw [hB.1] at h1; cases h1), fun i hi => ?_⟩
    rw [hB.1] at hi
    obtain rfl : i = k := by simpa using hi
    have hw : wpOpIn F nn P ops Q i (wpListIn F nn P ops Q l) a w := by unfold wpOpIn; simp only [h0]; exact h
    exact wpOpIn_mono (fun a' w' h' => wpAnyIn_seq l (i + 1) _ a' w' (fun j => by have := hl (j + 1); simpa [Nat.add_assoc, Nat.add_comm 1 j] using this) hB.2 h') hw
theorem told_opIn {V : Pv} {o : Oper} {a b : Act} {w : World} (hd : ∀ c, o.op ≠ .defer c) (hs : ∀ cs b, o.op ≠ .select cs b) (hdst : ∀ d, o.dst = some d → d < a.tmps.size) (hsz : b.tmps.size = a.tmps.size) (hlook : ∀ t ∈ o.looksAt ops, b.tmps[t]? = a.tmps[t]?) {i : Nat} (hi : ops[i]? = some o)
    (hdf : b.defers = a0.defers) (h : wpList P ops (Told V o.dst a0.defers w) [o] b w) : wpOpIn Fence.wide nn P ops Q i (fun a' w' => ∃ v, a' = a.put o.dst v ∧ V.p (match o.dst with | some _ => v | none => undef) w' ∧ w.grownBy w' none) a w := by
  have h2 := told_op (Q := fun _ _ _ => False) hs hdst hsz hlook hi hdf h
  unfold wpOp at h2
  unfold wpOpIn
  simp only [hi] at h2 ⊢
  split
  · rename_i hw
    rw [if_pos hw] at h2
    rcases h2 with h2 | h2
    · refine ⟨fun _ _ => trivial, ?_⟩
      rw [Oper.semAt_plain _ _ _ hd]
      unfold Oper.wp at h2
      generalize (execOp a.eval o).run P w = r at *
      cases r with
      | ok x w' =>
        cases x with
        | value v => exact h2
        | skip => exact h2
        | defer d => exact h2
        | enter f args =>
          refine ⟨fun h => by simp [Fence.wide] at h, callsIn_wide.2 (Calls.mono h2 fun e w'' he => ?_)⟩
          cases e with
          | returned v => exact he
          | panicked c => exact he.elim
          | outgrown => obtain ⟨_, _, hx⟩ := he; exact hx.elim
        | row row args =>
          refine ⟨fun h => by simp [Fence.wide] at h, fun c cs _ => ?_⟩
          obtain ⟨v, w'', r, s⟩ := h2 c cs
          exact ⟨v, w'', r, stepsIn_wide.2 s⟩
        | round l f ts c1 c2 => exact h2.elim
        | _ => exact h2.elim
      | halt x w' =>
        cases x with
        | panic v => exact h2.elim
        | _ => exact h2.elim
    · obtain ⟨_, _, _, hx⟩ := h2
      exact hx.elim
  · rename_i hw
    rw [if_neg hw] at h2
    exact ⟨fun _ _ => trivial, h2⟩
/-- The law. -/
theorem wpAnyIn_mono {l : List Oper} (n : Nat) (hnd : noDefer l.toArray = true) (hB : monoB l.toArray n a0.tmps.size = true)
    (h : Mono P l.toArray n a0 w0 (fun Vs => ∀ w, w0.grownBy w none → Fin' (fun a w => wpListIn Fence.wide nn P l.toArray Q (l.drop n) a w) w Vs (l.take n) a0) [] (l.take n)) : wpAnyIn Fence.wide nn P .any l.toArray Q l.toArray.size (Array.replicate l.toArray.size false) a0 w0 := by
  simp only [monoB, Bool.and_eq_true, decide_eq_true_eq] at hB
  obtain ⟨⟨⟨⟨hsel, hn⟩, htail⟩, htopo⟩, hdist⟩ := hB
  simp only [tailB, Bool.and_eq_true] at htail
  obtain ⟨hblk, hseq⟩ := htail
  obtain ⟨Vs, hVl, hF, hO⟩ := Mono.out h
  rw [List.nil_append] at hF
  simp only [List.nil_append, List.length_nil, Nat.zero_add] at hO
  have hnl : n ≤ l.length := by simpa using hn
  have htl : (l.take n).length = n := by simp; omega
  have hVn : Vs.length = n := hVl.trans htl
  have hdl : (l.drop n).length = l.toArray.size - n := by simp
  have hnext : ∀ i o, i < n → l.toArray[i]? = some o → (l.take n)[i]? = some o := fun i o hi ho => by
    rw [List.getElem?_take, if_pos hi]
    simpa using ho
  have key : ∀ m D a w, MInv l.toArray n a0 w0 Vs D a w → cnt D n = m → wpAnyIn Fence.wide nn P .any l.toArray Q (m + (l.toArray.size - n)) D a w := by
    intro m
    induction m with
    | zero =>
      intro D a w inv hc
      have hall := cnt_zero hc
      have hD : D = Array.replicate n true ++ Array.replicate (l.toArray.size - n) false := by
        have hsz := inv.head.size
        refine Array.ext (by simp [hsz]; omega) fun i h1 h2 => ?_
        rw [Array.getElem_append]
        by_cases hi : i < n
        · have := hall i hi
          simp [h1] at this
          simp [hi, this]
        · have := inv.head.tail i (by omega) (by omega)
          simp [h1] at this
          simp [hi, this]
      have hk : ∀ (k : Nat) (V : Pv) (o : Oper), Vs[k]? = some V → (l.take n)[k]? = some o → V.p (match o.dst with | some d => a.eval (.tmp d) | none => undef) w := by
        intro k V o hv ho
        have hkn : k < n := by have := (List.getElem?_eq_some_iff.1 hv).1; omega
        have h1 := inv.known k V (hall k hkn) hv
        have h2 : dstAt l.toArray k = o.dst := by
          have : l[k]? = some o := by rw [List.getElem?_take, if_pos hkn] at ho; exact ho
          simp [dstAt, this]
        rw [h2] at h1
        have h3 : (match o.dst with | some d => a.eval (.tmp d) | none => undef) = valOf o.dst a := by cases o.dst <;> rfl
        rw [h3]
        exact h1
      have hfin := Fin'.all hVl hk (hF w inv.grown)
      have hon : onto a ((l.take n).map (·.dst)) a0 = a := by
        refine act_ext (fun t => onto_at a t _ _ inv.tsize.symm ?_) ((onto_defers _ _ _).trans inv.defers.symm)
        by_cases ht : some t ∈ (l.take n).map (·.dst)
        · exact .inl ht
        · refine .inr (inv.rest t fun j hj _ e => ht ?_).symm
          have hjl : j < l.length := by omega
          have : l[j].dst = some t := by simpa [dstAt, hjl] using e
          exact List.mem_map.2 ⟨l[j], List.mem_iff_getElem?.2 ⟨j, by rw [List.getElem?_take, if_pos hj, List.getElem?_eq_getElem hjl]⟩, this⟩
      rw [hon] at hfin
      have := wpAnyIn_seq (md := .any) (l.drop n) n D a w (fun j => by simp [List.getElem?_drop]) (by rw [hdl, hD]; exact hseq) hfin
      rw [hdl] at this
      rwa [Nat.zero_add]
    | succ m ih =>
      intro D a w inv hc
      have hready : ∀ i ∈ Region.ready .any l.toArray D, i < n := by
        intro i hi
        rcases Nat.lt_or_ge i n with h' | h'
        · exact h'
        · obtain ⟨hu, oi, hoi, hall⟩ := mem_ready.1 hi
          have hlt : i < l.toArray.size := (Array.getElem?_eq_some_iff.1 hoi).1
          exfalso
          obtain ⟨k, hk, hkd⟩ : ∃ k, k < n ∧ D.getD k false = false := by
            refine Classical.byContradiction fun hno => ?_
            have : ∀ k, k ≤ n → cnt D k = 0 := by
              intro k
              induction k with
              | zero => intro _; rfl
              | succ k ihk =>
                intro hk
                have h1 : D.getD k false = true := by
                  refine Classical.byContradiction fun hx => hno ⟨k, by omega, by simpa using hx⟩
                simp only [cnt, h1, ihk (by omega)]
                rfl
            rw [this n (Nat.le_refl _)] at hc
            omega
          have hb := list_all_range hblk hlt
          simp only [Bool.or_eq_true, decide_eq_true_eq] at hb
          have hb := list_all_range (hb.resolve_left (by omega)) hk
          simp only [Bool.not_eq_true'] at hb
          have hik : i ≠ k := by omega
          have : av l.toArray k n i = true := by
            have hav := fun f j hj => av_of (ops := l.toArray) inv.head.closed inv.head.size hkd f j hj
            cases hn0 : n with
            | zero => simp [av, hik]
            | succ f =>
              simp only [av, hoi, Option.map_some, Option.getD_some, Bool.and_eq_true, bne_iff_ne]
              refine ⟨hik, ?_⟩
              rw [Array.all_eq_true_iff_forall_mem]
              intro e he
              by_cases hbd : Region.binds .any e = true
              · simp [hbd, hav f e.on (hall e he hbd)]
              · simp [hbd]
          rw [hb] at this
          cases this
      have hne : Region.ready .any l.toArray D ≠ [] := by
        have hex : ∃ k, k < n ∧ D.getD k false = false ∧ ∀ j, j < k → D.getD j false = true := by
          have : ∀ k, k ≤ n → (∃ q, q < k ∧ D.getD q false = false ∧ ∀ j, j < q → D.getD j false = true) ∨ (cnt D k = 0) := by
            intro k
            induction k with
            | zero => intro _; exact .inr rfl
            | succ k ihk =>
              intro hk
              rcases ihk (by omega) with ⟨q, h1, h2⟩ | h0
              · exact .inl ⟨q, by omega, h2⟩
              · cases hq : D.getD k false with
                | true => right; simp only [cnt, hq, h0]; rfl
                | false => exact .inl ⟨k, by omega, hq, cnt_zero h0⟩
          rcases this n (Nat.le_refl _) with ⟨q, h1, h2⟩ | h0
          · exact ⟨q, h1, h2⟩
          · omega
        obtain ⟨k, hk, hkd, hbel⟩ := hex
        have hkl : k < l.toArray.size := by omega
        have ho : l.toArray[k]? = some l.toArray[k] := Array.getElem?_eq_getElem hkl
        have : k ∈ Region.ready .any l.toArray D := by
          refine mem_ready.2 ⟨getD_in (by rw [inv.head.size]; exact hkl) hkd, _, ho, fun e he hb => hbel _ ?_⟩
          have ht := list_all_range htopo hk
          simp only [ho, Option.map_some, Option.getD_some] at ht
          have := Array.all_eq_true_iff_forall_mem.1 ht e he
          simpa [hb] using this
        intro e
        rw [e] at this
        cases this
      rw [show m + 1 + (l.toArray.size - n) = (m + (l.toArray.size - n)) + 1 by omega]
      refine ⟨fun e => absurd e hne, fun i hi => ?_⟩
      have hin := hready i hi
      obtain ⟨hu, o, ho, hall⟩ := mem_ready.1 hi
      obtain ⟨V, js, hV, hchk, hask⟩ := hO i o (hnext i o hin ho)
      simp only [Bool.and_eq_true] at hchk
      obtain ⟨hpair, hlook⟩ := hchk
      have hdst : ∀ d, o.dst = some d → d < a.tmps.size := by
        intro d hd
        have := list_all_range hdist hin
        have h2 : dstAt l.toArray i = some d := by simp only [dstAt, ho]; exact hd
        rw [h2] at this
        simp only [Bool.and_eq_true, decide_eq_true_eq] at this
        rw [inv.tsize]
        exact this.1
      have hjs : ∀ x : Nat × Tmp, x ∈ js → dstAt l.toArray x.1 = some x.2 ∧ D.getD x.1 false = true ∧ x.1 < i := by
        intro x hx
        have := List.all_eq_true.1 hpair x hx
        simp only [Bool.and_eq_true, beq_iff_eq] at this
        obtain ⟨oj, hoj, e, he, hb, hon⟩ := Region.waitsFor_spec this.2
        obtain rfl : o = oj := Option.some.inj (ho.symm.trans hoj)
        have ht := list_all_range htopo hin
        simp only [ho, Option.map_some, Option.getD_some] at ht
        have ht := Array.all_eq_true_iff_forall_mem.1 ht e he
        simp only [hb, Bool.not_true, Bool.false_or, decide_eq_true_eq] at ht
        exact ⟨this.1, by rw [← hon]; exact hall e he hb, by rw [← hon]; exact ht⟩
      have hA := hask w inv.grown
      have hW := Ask.all (b := a) (fun x hx => by
        obtain ⟨h1, h2, h3⟩ := hjs x hx
        have hxl : x.1 < Vs.length := by omega
        have h4 : Vs[x.1]? = some Vs[x.1] := List.getElem?_eq_getElem hxl
        have h5 := inv.known x.1 _ h2 h4
        rw [h1] at h5
        have : (Vs.take i).getD x.1 Pv.any = Vs[x.1] := by
          rw [List.getD_eq_getElem?_getD, List.getElem?_take, if_pos h3, h4]
          rfl
        rw [this]
        exact h5) hA
      have hop := told_opIn (Q := Q) (nn := nn) (ops := l.toArray) (fun c => noDefer_spec hnd i o c ho) (a0 := a0) (a := a) (Region.noSelect_spec hsel i o · · ho) hdst ((onto_size _ _ _).trans inv.tsize.symm) (fun t ht => by
        refine onto_at a t _ _ inv.tsize.symm ?_
        have h1 : (o.looksAt l.toArray).all (fun t => js.any (·.2 == t) || keptB l.toArray n i t) = true := by
          simpa only [lookB, ho, Option.map_some, Option.getD_some] using hlook
        have h2 := List.all_eq_true.1 h1 t ht
        simp only [Bool.or_eq_true] at h2
        rcases h2 with h2 | h2
        · left
          obtain ⟨x, hx, hxt⟩ := List.any_eq_true.1 h2
          exact List.mem_map.2 ⟨x, hx, by rw [beq_iff_eq.1 hxt]⟩
        · right
          refine (inv.rest t fun j hj hD e => ?_).symm
          have h3 := list_all_range h2 hj
          simp only [Bool.or_eq_true, bne_iff_ne, ne_eq, beq_iff_eq] at h3
          rcases h3 with (h3 | h3) | h3
          · exact h3 e
          · obtain ⟨oj, hoj, e', he', hb', hon⟩ := Region.waitsFor_spec h3
            have := inv.head.closed j oj hoj hD e' he' hb'
            rw [hon, getD_both hu] at this
            cases this
          · subst h3
            rw [getD_both hu] at hD
            cases hD) ho (onto_defers _ _ _) hW
      refine wpOpIn_mono (fun a' w' hk => ?_) hop
      obtain ⟨v, ha, hv, hg⟩ := hk
      exact ih _ a' w' (minv_step inv hdist hi hin ho hV (by omega) ha hv hg) (by have := (cnt_set (D := D) (i := i) n).2 hin hu; omega)
  have h0 := key n (Array.replicate l.toArray.size false) a0 w0 ⟨⟨by simp, (fun j oj _ hD => by rw [getD_replicate_false] at hD; cases hD), fun t _ ht => by simp only [List.size_toArray] at ht ⊢; simp [ht]⟩, World.grownBy.refl w0 none, rfl, rfl, fun _ _ => rfl, (fun j V hD => by rw [getD_replicate_false] at hD; cases hD)⟩ (cnt_false _ n)
  rwa [show n + (l.toArray.size - n) = l.toArray.size by omega] at h0
def FinI (nn : Nat) (P : Program) (ops : Array Oper) (Q : Exit → Act → World → Prop) (w : World) : List Pv → List Oper → Act → Prop
  | V :: Vs, o :: os, a => ∀ x, V.p x w → FinI nn P ops Q w Vs os (a.put o.dst x)
  | _, os, a => wpListIn Fence.wide nn P ops Q os a w
theorem FinI.cut {w : World} : ∀ {Vs : List Pv} {os : List Oper} {a : Act}, Vs.length ≤ os.length → FinI nn P ops Q w Vs os a → Fin' (fun a w => wpListIn Fence.wide nn P ops Q (os.drop Vs.length) a w) w Vs (os.take Vs.length) a
  | [], os, a, _, h => by
    have h : wpListIn Fence.wide nn P ops Q os a w := by cases os <;> exact h
    exact h
  | V :: Vs, [], a, hl, _ => by simp at hl
  | V :: Vs, o :: os, a, hl, h => fun x hx => FinI.cut (Vs := Vs) (os := os) (by simpa using hl) (h x hx)
theorem wpIn_region_mono {l : List Oper} {id : Nat} (n : Nat) (hm : P.follows .mixedOrders = true) (hnd : noDefer l.toArray = true) (hB : monoB l.toArray n a0.tmps.size = true)
    (h : MonoR P l.toArray n a0 w0.drew (fun Vs => ∀ w, w0.drew.grownBy w none → FinI nn P l.toArray Q w Vs l a0) n [] l) : (Code.region id l.toArray true).wpIn Fence.wide nn P Q a0 w0 := by
  refine wpIn_region_any hm ?_
  obtain ⟨hM, hn⟩ := MonoN.cut (MonoR.up h)
  refine wpAnyIn_mono n hnd hB (Mono.weak hM fun Ws hW hF w hw => ?_)
  have hl : Ws.length = n := by simp only [List.length_nil, Nat.zero_add] at hW; rw [hW]; simp; omega
  have := FinI.cut (by rw [hl]; exact hn) (hF w hw)
  rwa [hl] at this
end
end Go.Proofs.YtnjkelojkoeihaaGreatDoor

namespace Go.Proofs.YtnjkelojkoeihaaGreatDoor
open Go Go.RowKit

section
variable {F : Fence} {n : Nat} {P : Program}
/-- An iterator that goes to its end: of each thing x handed over, Fx x is known where yield is called. -/
def SeqGoes {α : Type} (F : Fence) (n : Nat) (P : Program) (g : Nat) (lb : Array Value) (encs : α → Array Value) (Fx : α → World → Prop) (Kp : World → World → Prop) (S : List α → Prop) (N : Nat) (w : World) : Prop :=
  ∀ (l : Nat) (J : List α → World → Prop) (W : World), Below w.heap.size w W → AbidesFrom W.heap.size J →
    (∀ pre x V, J pre V → Fx x V → pre.length < N → YieldAt F (n - 1) P l (encs x) V fun e V' => e = .returned (.bool true) ∧ J (pre ++ [x]) V' ∧ Kp V V') →
    J [] W → CallsIn F n P g (#[.func (.yield l) #[] #[]] ++ lb) W fun e W' => (∃ v, e = .returned v) ∧ ∃ xs, S xs ∧ J xs W'
/-- How the body ends. -/
def GoesOn {α : Type} (B : Nat) (Kp : World → World → Prop) (I : List α → World → Prop) (xs : List α) (W : World) : Exit → Act → World → Prop := fun e _ W' => e = .normal ∧ KeepsFrom B W W' ∧ Kp W W' ∧ I xs W'
/-- The loop's own record, and the block of what is put off. -/
structure Recs (B : Nat) (r : Loop) (W : World) : Prop where
  lp : W.heap[B + 1]? = some (.loop r)
  df : W.heap[B]? = some (.deferred (some []))
theorem Recs.from {B : Nat} {r : Loop} {W W' : World} (h : Recs B r W) (hk : KeepsFrom B W W') : Recs B r W' := ⟨hk.same _ _ (by omega) h.lp rfl, hk.same _ _ (Nat.le_refl _) h.df rfl⟩
theorem Recs.put {B : Nat} {r : Loop} {W : World} (h : Recs B r W) (r' : Loop) : Recs B r' (W.putObj (B + 1) (.loop r')) := ⟨World.putObj_heap_same (Array.getElem?_eq_some_iff.1 h.lp).1, (World.putObj_heap_other (by omega)).trans h.df⟩
theorem Recs.walk {B : Nat} {r : Loop} {W W' : World} {row : Option Nat} (h : Recs B r W) (hg : W.grownBy W' row) (hr : ∀ k, row = some k → ∃ o : Obj, W.heap[k]? = some o ∧ o.isWalk = true) : Recs B r W' := ⟨(grownBy_keeps hg hr h.lp rfl).trans h.lp, (grownBy_keeps hg hr h.df rfl).trans h.df⟩
theorem wpIn_rangeFunc_goes {α : Type} {g : Operand} {ps : Array Tmp} {assign body : Code} {Q : Exit → Act → World → Prop} {a : Act} {w : World} (hro : F.round = none) (h1 : 1 ≤ n) {gf : Nat} {lb : Array Value} (hg : a.eval g = .func (.func gf) #[] lb) (hFg : F.fn gf)
    (eg : ∀ args w, (callFunc gf args).run P w = .ok (.enter gf args) w) {encs : α → Array Value} {Fx : α → World → Prop} {Kp : World → World → Prop} {S : List α → Prop} {N : Nat} {w0 : World} (hseq : SeqGoes F (n - 1) P gf lb encs Fx Kp S N w0)
    (hKt : ∀ {A B C : World}, Kp A B → Kp B C → Kp A C) (hKb : ∀ (W : World) (l : Nat) (o o' : Obj), w.heap.size ≤ l → W.heap[l]? = some o → o.isCells = false → o.isWalk = false → Kp W (W.putObj l o')) (hb0 : Below w0.heap.size w0 w) (hps : ∀ x, (encs x).size = ps.size)
    (I : List α → World → Prop) (hI : OwnFrom w.heap.size I) (h0 : I [] w) (Ax : α → Act → World → Prop) (hAx : ∀ x a', OwnFrom w.heap.size (fun (_ : Unit) W => Ax x a' W))
    (hassign : ∀ (l : Nat) (pre : List α) (x : α) (W : World) (K : Act → World → Prop), I pre W → Fx x W → (∀ a' W', KeepsFrom w.heap.size W W' → Kp W W' → I pre W' → Ax x a' W' → K a' W') →
      assign.wpIn (F.inRound l) (n - 1 - 1) P (Exit.then K (fun _ _ _ => False)) { tmps := (ps.zip (encs x)).foldl (fun t (p, v) => t.setIfInBounds p v) a.tmps, defers := [] } W)
    (hbody : ∀ (l : Nat) (pre : List α) (x : α) (a' : Act) (W : World), w.heap.size ≤ l → I pre W → Ax x a' W → pre.length < N → body.wpIn (F.inRound l) (n - 1 - 1) P (GoesOn w.heap.size Kp I (pre ++ [x]) W) a' W)
    (hdone : ∀ (D : Nat) (xs : List α) (W : World), w.heap.size ≤ D → S xs → I xs W → W.heap[D]? = some (.deferred (some [])) → Q .normal { a with defers := { target := .collected D, args := #[] } :: a.defers } W) :
    (Code.rangeFunc g ps assign body).wpIn F n P Q a w := by
  refine wpIn_rangeFunc fun fn hfn => ?_
  rw [hro]
  let rec0 : Loop := { state := .ready, pending := none, fn, tmps := a.tmps, params := ps, assign, body, defers := w.heap.size }
  let V0 := (w.alloc (.deferred (some []))).alloc (.loop rec0)
  have hR0 : Recs w.heap.size rec0 V0 := ⟨by have := World.alloc_heap_new (w.alloc (.deferred (some []))) (.loop rec0); rwa [World.size_alloc] at this, (Below.heap_alloc _ _ _ (by simp)).trans (World.alloc_heap_new w _)⟩
  have hV0 : V0.heap.size = w.heap.size + 2 := by simp [V0]
  have hI0 : I [] V0 := hI.alloc _ (hI.alloc _ h0)
  have hB0 : Below w0.heap.size w0 V0 := hb0.trans ((((Below.refl _ w).alloc (Nat.le_refl _) _).alloc (by simp) _).mono hb0.size)
  refine ⟨w.heap.size + 1, [{ target := .collected w.heap.size, args := #[] }], V0, { target := .fn (.func gf) lb, args := #[.func (.yield (w.heap.size + 1)) #[] #[]] }, V0, gf, #[.func (.yield (w.heap.size + 1)) #[] #[]] ++ lb, V0, run_enterLoop_outer _ _ _ _ _, ?_, ?_, ?_, fun _ => h1, ?_⟩
  · simp only [resolve, hg]
    simp [go_sem]
  · intro f' hf'
    simp [Target.leads] at hf'
    subst hf'
    exact hFg
  · simp [invoke, go_sem, eg]
  refine (hseq (w.heap.size + 1) (fun pre W => I pre W ∧ Recs w.heap.size rec0 W) V0 hB0 (fun s A B row hs hgr hr => ⟨hI s A B row hs.1 hgr fun r e => ?_, hs.2.walk hgr fun r e => (hr r e).2⟩) ?_ ⟨hI0, hR0⟩).mono ?_
  · obtain ⟨h2, o, ho, hw⟩ := hr r e
    exact ⟨by rw [hV0] at h2; omega, o, ho, Obj.not_cells_of_walk hw⟩
  · rintro pre x V ⟨hi, hr⟩ hfx hlen
    refine ⟨fn, _, assign, body, run_yield hr.lp (hps x), roundIn_of_wpIn hfn (hassign _ pre x V _ hi hfx fun a' V1 hk1 hp1 hi1 hx1 => ?_)⟩
    have hr1 := hr.from hk1
    refine ⟨_, run_beginRound hr1.lp rfl, ?_⟩
    have hr2 := hr1.put { rec0 with state := .busy }
    have hp2 := hKb V1 (w.heap.size + 1) _ (.loop { rec0 with state := .busy }) (by omega) hr1.lp rfl rfl
    refine wpIn_mono (hbody _ pre x a' _ (by omega) (hI.putObj _ hi1 (by omega) hr1.lp rfl) ((hAx x a').putObj (s := ()) _ hx1 (by omega) hr1.lp rfl) hlen) ?_
    rintro e a3 V3 ⟨rfl, hk3, hp3, hi3⟩
    have hr3 := hr2.from hk3
    refine ⟨_, _, run_endRound none hr3.lp, rfl, ⟨hI.putObj _ hi3 (by omega) hr3.lp rfl, hr3.put rec0⟩, hKt hp1 (hKt (hKt hp2 hp3) (hKb _ _ _ _ (by omega) hr3.lp rfl rfl))⟩
  · rintro e V2 ⟨⟨v, rfl⟩, xs, hS, hi, hr⟩
    exact ⟨none, _, run_endLoop hr.lp (by simp [rec0]), hdone _ xs _ (Nat.le_refl _) hS (hI.putObj _ hi (by omega) hr.lp rfl) ((World.putObj_heap_other (by omega)).trans hr.df)⟩
end
end Go.Proofs.YtnjkelojkoeihaaGreatDoor
