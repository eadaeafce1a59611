/- law08's polynomials of two variables made of numbers. -/
import Derived.Test.YtmbbahlenanpfaaDoorPedK
import Derived.IntWalk
namespace Go.Proofs.YtmbbahlenanpfaaDoor
open Go Go.RowKit

set_option maxHeartbeats 400000 in
theorem secrets08_any (p : Par) (w : World) :
    Calls Tryd.prog 42 #[p.v] w fun e w' => e = .returned (.int .i64 (secretsI p)) ∧ w.grownBy w' none := by
  go_enter Tryd.func42, Tryd.ntmps42
  go_wp2
  go_ret
  exact ⟨rfl, World.grownBy_alloc w _ none⟩
/-- The at-th number of a list that is gone through again and again; its place, if there is none. -/
def xAt (l : List Int) (k : Nat) : Int := if 0 < l.length then l[k % l.length]?.getD 0 else k
def xRow (l : List Int) (k n : Nat) : List Int := (List.range n).map fun j => xAt l (k + j)
def xSq (l : List Int) (n k m : Nat) : List (List Int) := (List.range m).map fun i => xRow l (k + i * n) n
def xCube (l : List Int) (n m : Nat) : List (List (List Int)) := (List.range m).map fun s => xSq l n (s * (n * n)) n
theorem xRow_snoc (l : List Int) (k n : Nat) : xRow l k (n + 1) = xRow l k n ++ [xAt l (k + n)] := by simp [xRow, List.range_succ]
theorem xSq_snoc (l : List Int) (n k m : Nat) : xSq l n k (m + 1) = xSq l n k m ++ [xRow l (k + m * n) n] := by simp [xSq, List.range_succ]
theorem xCube_snoc (l : List Int) (n m : Nat) : xCube l n (m + 1) = xCube l n m ++ [xSq l n (m * (n * n)) n] := by simp [xCube, List.range_succ]
theorem xRow_length (l : List Int) (k n : Nat) : (xRow l k n).length = n := by simp [xRow]
theorem xSq_length (l : List Int) (n k m : Nat) : (xSq l n k m).length = m := by simp [xSq]
theorem xCube_length (l : List Int) (n m : Nat) : (xCube l n m).length = m := by simp [xCube]
theorem xAt_U64 {X : Nat → Prop} {w : World} {v : Value} {l : List Int} (h : Sl encU X w v l) (k : Nat) (hk : k ≤ 1000000) : U64 (xAt l k) := by
  unfold xAt
  split
  · rename_i hl
    have hlt := Nat.mod_lt k hl
    rw [List.getElem?_eq_getElem hlt]
    obtain ⟨_, _, _, _, _, _, _, u⟩ := h.atU hlt
    exact u
  · exact ⟨by omega, by omega⟩
set_option maxHeartbeats 4000000 in
theorem two_any (p : Par) (v : Value) (l : List Int) (n S : Nat) (X : Nat → Prop) (w : World) (h : Sl encU X w v l) (hn : p.T + 1 = (n : Int)) (hT0 : 0 ≤ p.T) (hn9 : n ≤ 9) (hS : secretsI p = (S : Int)) (hS9 : S ≤ 100) :
    Calls Tryd.prog 14 #[p.v, v] w (Gives (encS (encS encU)) (fun g => w.heap.size ≤ g) w (xCube l n S)) := by
  have H := Lib.hid h
  obtain ⟨A, c, rfl, hc1, hc2⟩ := h.form
  have HSEC : Hid (∀ w, Calls Tryd.prog 42 #[p.v] w fun e w' => e = .returned (.int .i64 (S : Int)) ∧ w.grownBy w' none) := Lib.hid (fun w => (secrets08_any p w).mono fun e w' h => ⟨by rw [h.1, hS], h.2⟩)
  obtain ⟨T, hT⟩ : ∃ T : Nat, p.T = (T : Int) := ⟨p.T.toNat, by omega⟩
  have hnT : n = T + 1 := by omega
  have HT := Lib.hid hT
  have HST : Hid (Acc (encS (encS encU)) w.heap.size 28 (fun g => w.heap.size ≤ g) (w.alloc (Obj.cells p.cells 24)) (.slice none 0 0) (xCube l n 0) ∧ w.grownBy (w.alloc (Obj.cells p.cells 24)) none ∧ Bk (w.alloc (Obj.cells p.cells 24)) w.heap.size 24 p.cells) := Lib.hid ⟨Acc.nil _ _ _ _ _, World.grownBy_alloc w _ none, Bk.new w _ _⟩
  have HNN : Hid (n * n ≤ 81) := Lib.hid (by have := Nat.mul_le_mul hn9 hn9; omega)
  have H0 : Hid ((0 : Nat) = 0 * (n * n)) := Lib.hid (by simp)
  have HNT := Lib.hid hnT
  clear h hn hS hT hnT
  go_enter Tryd.func14, Tryd.ntmps14
  go_wp2_with fail
  go_loopg [5, 6, 7] S (fun g s5 s6 s7 wx => ∃ s k : Nat, s + g = S ∧ s7 = .int .i64 s ∧ s6 = .int .i64 k ∧ Hid (k = s * (n * n)) ∧ Hid (Acc (encS (encS encU)) w.heap.size 28 (fun g => w.heap.size ≤ g) wx s5 (xCube l n s) ∧ w.grownBy wx none ∧ Bk wx w.heap.size 24 p.cells))
  case atStart => exact ⟨0, 0, by omega, rfl, rfl, H0, HST⟩
  case round =>
    rename World => wj
    obtain ⟨s, k, hs, rfl, rfl, HK, HX⟩ := hrel
    have hpr := HX.out.2.2.prule
    have hplt := HX.out.2.2.lt
    cases gk with
    | zero =>
      obtain rfl : s = S := by omega
      have HR : Hid (Sl (encS (encS encU)) (fun g => w.heap.size ≤ g) wj u5 (xCube l n s) ∧ w.grownBy wj none) := Lib.hid ⟨HX.out.1.sl, HX.out.2.1⟩
      clear HX HST
      go_wp2_with fail
      refine (HSEC.out _).mono ?_
      rintro e w1 ⟨rfl, hg1⟩
      have HE : Hid (Sl (encS (encS encU)) (fun g => w.heap.size ≤ g) w1 u5 (xCube l n s) ∧ w.grownBy w1 none) := Lib.hid ⟨HR.out.1.kept hg1, HR.out.2.trans hg1⟩
      clear hg1 hpr
      go_wp2
      go_ret
      exact ⟨_, rfl, HE.out.1, HE.out.2⟩
    | succ m =>
      have hsn : (s : Int) < (S : Int) := by omega
      have HKB : Hid (k ≤ 8100) := Lib.hid (by rw [HK.out]; have := Nat.mul_le_mul (show s ≤ 100 by omega) HNN.out; omega)
      go_wp2_with fail
      refine (HSEC.out _).mono ?_
      rintro e w1 ⟨rfl, hg1⟩
      have HX1 : Hid (Acc (encS (encS encU)) w.heap.size 28 (fun g => w.heap.size ≤ g) w1 u5 (xCube l n s) ∧ w.grownBy w1 none ∧ Bk w1 w.heap.size 24 p.cells) := Lib.hid ⟨HX.out.1.kept hg1, HX.out.2.1.trans hg1, HX.out.2.2.grown hg1 (by simp)⟩
      have HS2 : Hid (Acc (encS encU) w1.heap.size 25 (fun g => w1.heap.size ≤ g) w1 (.slice none 0 0) (xSq l n k 0) ∧ w1.grownBy w1 none) := Lib.hid ⟨Acc.nil _ _ _ _ _, World.grownBy.refl w1 none⟩
      have H00 : Hid (k = k + 0 * n) := Lib.hid (by simp)
      clear hg1 hpr HX HST
      go_wp2_with fail
      go_loopg [6, 8, 9] n (fun g s6 s8 s9 wx => ∃ i q : Nat, i + g = n ∧ s9 = .int .i64 i ∧ s6 = .int .i64 q ∧ Hid (q = k + i * n) ∧ Hid (Acc (encS encU) w1.heap.size 25 (fun g => w1.heap.size ≤ g) wx s8 (xSq l n k i) ∧ w1.grownBy wx none))
      case atStart => exact ⟨0, k, by omega, rfl, rfl, H00, HS2⟩
      case round =>
        rename World => wk
        obtain ⟨i, q, hi, rfl, rfl, HQ, HY⟩ := hrel
        have HBk := Lib.hid (HX1.out.2.2.grown HY.out.2 (by simp))
        have hpr := HBk.out.prule
        rw [HT.out] at hpr
        have hnT := HNT.out
        cases gk with
        | zero =>
          obtain rfl : i = n := by omega
          have hiT : ¬ ((i : Int) ≤ (T : Int)) := by omega
          have HXa : Hid (Acc (encS (encS encU)) w.heap.size 28 (fun g => w.heap.size ≤ g) wk u5 (xCube l i s)) := Lib.hid (HX1.out.1.kept HY.out.2)
          have HXg : Hid (w.grownBy wk none) := Lib.hid (HX1.out.2.1.trans HY.out.2)
          obtain ⟨A2, c2, e2, _, _⟩ := HY.out.1.sl.form
          rw [xSq_length] at e2
          subst e2
          have HREP : Hid (Enc.rep (encS (encS encU)) (fun g => w.heap.size ≤ g ∧ some g ≠ u5.ownBlock) wk [.slice A2 i c2] (xSq l i k i)) := Lib.hid ⟨_, rfl, (HY.out.1.sl.fresh HX1.out.2.1 HX1.out.1)⟩
          have HLB : Hid (((xCube l i s).length + 1) * 24 ≤ 140737488355328) := Lib.hid (by rw [xCube_length]; omega)
          have HSN : Hid (xCube l i (s + 1) = xCube l i s ++ [xSq l i k i]) := Lib.hid (by rw [xCube_snoc, HK.out])
          have HKN : Hid (q = (s + 1) * (i * i)) := Lib.hid (by rw [HQ.out, HK.out, Nat.add_mul]; omega)
          clear hnT HY HS2
          go_wp2_with (at_builtin; refine wpList_pushG rfl (.tmp 53) (.tmp 55) rfl (E := encS (encS encU)) el_rows HXg.out HXa.out (fun _ h => h) HREP.out HLB.out rfl rfl ?_)
          intro v2 w2 hacc2 hg2 hgo
          have HFIN : Hid (Acc (encS (encS encU)) w.heap.size 28 (fun g => w.heap.size ≤ g) w2 v2 (xCube l i (s + 1)) ∧ w.grownBy w2 none ∧ Bk w2 w.heap.size 24 p.cells) := Lib.hid ⟨by rw [HSN.out]; exact hacc2, hg2, HBk.out.grown hgo (fun e => HXa.out.ne_bk HBk.out (by decide) e.symm)⟩
          clear hacc2 hg2 hgo hpr
          go_wp2_with fail
          go_roundg m
          case measure => omega
          case rel => exact ⟨s + 1, q, by omega, by go_num, rfl, HKN, HFIN⟩
        | succ m2 =>
          have hiT : (i : Int) ≤ (T : Int) := by omega
          have HQB : Hid (q ≤ 9000) := Lib.hid (by rw [HQ.out]; have := Nat.mul_le_mul (show i ≤ n by omega) (Nat.le_refl n); have := HNN.out; have := HKB.out; omega)
          have HS3 : Hid (Acc encU wk.heap.size 22 (fun g => wk.heap.size ≤ g) wk (.slice none 0 0) (xRow l q 0) ∧ wk.grownBy wk none) := Lib.hid ⟨Acc.nil _ _ _ _ _, World.grownBy.refl wk none⟩
          have H000 : Hid (q = q + 0) := Lib.hid rfl
          clear hnT
          go_wp2_with fail
          go_loopg [6, 10, 11] n (fun g s6 s10 s11 wx => ∃ j r : Nat, j + g = n ∧ s11 = .int .i64 j ∧ s6 = .int .i64 r ∧ Hid (r = q + j) ∧ Hid (Acc encU wk.heap.size 22 (fun g => wk.heap.size ≤ g) wx s10 (xRow l q j) ∧ wk.grownBy wx none))
          case atStart => exact ⟨0, q, by omega, rfl, rfl, H000, HS3⟩
          case round =>
            rename World => wi
            obtain ⟨j, r, hj, rfl, rfl, HR, HZ⟩ := hrel
            have hpr := (HBk.out.grown HZ.out.2 (by simp)).prule
            rw [HT.out] at hpr
            have hnT := HNT.out
            cases gk with
            | zero =>
              obtain rfl : j = n := by omega
              have hjT : ¬ ((j : Int) ≤ (T : Int)) := by omega
              have HYa : Hid (Acc (encS encU) w1.heap.size 25 (fun g => w1.heap.size ≤ g) wi u8 (xSq l j k i)) := Lib.hid (HY.out.1.kept HZ.out.2)
              have HYg : Hid (w1.grownBy wi none) := Lib.hid (HY.out.2.trans HZ.out.2)
              obtain ⟨A2, c2, e2, _, _⟩ := HZ.out.1.sl.form
              rw [xRow_length] at e2
              subst e2
              have HREP : Hid (Enc.rep (encS encU) (fun g => w1.heap.size ≤ g ∧ some g ≠ u8.ownBlock) wi [.slice A2 j c2] (xRow l q j)) := Lib.hid ⟨_, rfl, (HZ.out.1.sl.fresh HY.out.2 HY.out.1)⟩
              have HLB : Hid (((xSq l j k i).length + 1) * 24 ≤ 140737488355328) := Lib.hid (by rw [xSq_length]; omega)
              have HSN : Hid (xSq l j k (i + 1) = xSq l j k i ++ [xRow l q j]) := Lib.hid (by rw [xSq_snoc, HQ.out])
              have HKN : Hid (r = k + (i + 1) * j) := Lib.hid (by rw [HR.out, HQ.out, Nat.add_mul]; omega)
              clear hnT HZ HS3
              go_wp2_with (at_builtin; refine wpList_pushG rfl (.tmp 49) (.tmp 51) rfl (E := encS encU) el_nums HYg.out HYa.out (fun _ h => h) HREP.out HLB.out rfl rfl ?_)
              intro v2 w2 hacc2 hg2 hgo
              have HFIN : Hid (Acc (encS encU) w1.heap.size 25 (fun g => w1.heap.size ≤ g) w2 v2 (xSq l j k (i + 1)) ∧ w1.grownBy w2 none) := Lib.hid ⟨by rw [HSN.out]; exact hacc2, hg2⟩
              clear hacc2 hg2 hgo hpr
              go_wp2_with fail
              go_roundg m2
              case measure => omega
              case rel => exact ⟨i + 1, r, by omega, by go_num, rfl, HKN, HFIN⟩
            | succ m3 =>
              have hjT : (j : Int) ≤ (T : Int) := by omega
              have hr9 : (r : Int) ≤ 100000 := by have := HR.out; have := HQB.out; omega
              have hr0 : (0 : Int) ≤ (r : Int) := by omega
              have HUX := Lib.hid (xAt_U64 H.out r (by omega))
              have HSN : Hid (xRow l q (j + 1) = xRow l q j ++ [xAt l r]) := Lib.hid (by rw [xRow_snoc, HR.out])
              have HRN : Hid (r + 1 = q + (j + 1)) := Lib.hid (by rw [HR.out]; omega)
              have HLB : Hid (((xRow l q j).length + 1) * 8 ≤ 140737488355328) := Lib.hid (by rw [xRow_length]; omega)
              have HZa := Lib.hid HZ.out.1
              have HZg := Lib.hid HZ.out.2
              by_cases hl : 0 < l.length
              · have hll : (0 : Int) < (l.length : Int) := by omega
                have hkl := Nat.mod_lt r hl
                obtain ⟨g, o, c', e, _, _, hcu, _⟩ := (H.out.kept (HX1.out.2.1.trans (HY.out.2.trans HZ.out.2))).atU hkl
                injection e with e1 e2 e3
                subst e1 e3
                have hx : xAt l r = l[r % l.length] := by simp [xAt, hl, List.getElem?_eq_getElem hkl]
                rw [← hx] at hcu
                have hmod : ((r : Int) % (l.length : Int)) = ((r % l.length : Nat) : Int) := by simp
                have hk0 : (0 : Int) ≤ ((r % l.length : Nat) : Int) := by omega
                have hkL : ((r % l.length : Nat) : Int) < (l.length : Int) := by omega
                clear e2 hx
                generalize r % l.length = kk at *
                generalize xAt l r = xx at *
                clear hnT HZ
                go_wp2_with (at_builtin; refine wpList_pushG rfl (.tmp 45) (.tmp 47) rfl (E := encU) el_u64 HZg.out HZa.out (fun _ h => h) ⟨rfl, HUX.out⟩ HLB.out rfl rfl ?_)
                intro v2 w2 hacc2 hg2 hgo
                have HFIN : Hid (Acc encU wk.heap.size 22 (fun g => wk.heap.size ≤ g) w2 v2 (xRow l q (j + 1)) ∧ wk.grownBy w2 none) := Lib.hid ⟨by rw [HSN.out]; exact hacc2, hg2⟩
                clear hacc2 hg2 hgo hpr
                go_wp2_with fail
                go_roundg m3
                case measure => omega
                case rel => exact ⟨j + 1, r + 1, by omega, by go_num, by go_num, HRN, HFIN⟩
              · have hll : ¬ (0 : Int) < (l.length : Int) := by omega
                have hx : xAt l r = (r : Int) := by simp [xAt, hl]
                have HUX' : Hid (U64 (r : Int)) := Lib.hid (by rw [← hx]; exact HUX.out)
                rw [hx] at HSN
                clear hnT HZ HUX hx
                go_wp2_with (at_builtin; refine wpList_pushG rfl (.tmp 45) (.tmp 47) rfl (E := encU) el_u64 HZg.out HZa.out (fun _ h => h) ⟨rfl, HUX'.out⟩ HLB.out rfl rfl ?_)
                intro v2 w2 hacc2 hg2 hgo
                have HFIN : Hid (Acc encU wk.heap.size 22 (fun g => wk.heap.size ≤ g) w2 v2 (xRow l q (j + 1)) ∧ wk.grownBy w2 none) := Lib.hid ⟨by rw [HSN.out]; exact hacc2, hg2⟩
                clear hacc2 hg2 hgo hpr
                go_wp2_with fail
                go_roundg m3
                case measure => omega
                case rel => exact ⟨j + 1, r + 1, by omega, by go_num, by go_num, HRN, HFIN⟩
end Go.Proofs.YtmbbahlenanpfaaDoor
