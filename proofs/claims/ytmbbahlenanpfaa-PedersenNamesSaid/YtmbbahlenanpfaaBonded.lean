/- pedersen.Bonded, walked. -/
import Derived.Test.YtmbbahlenanpfaaSquare
import Derived.Test.YtmbbahlenanpfaaPedA
namespace Go.Proofs.Ytmbbahlenanpfaa
open Go Go.RowKit

def headI (M : List (List Int)) : Int := ((M[0]?.getD [])[0]?).getD 0
def bondOne (p : Par) (m : List (List (List Int))) (sh : List Int) (s : Nat) : Bool := decide ((m[s]?.getD []).length ≠ 0) && decide (headI (m[s]?.getD []) = sh[s]?.getD 0)
def bondedB (p : Par) (m : List (List (List Int))) (coms : List (List Int)) (i : Int) : Bool := squareB p m && formedB p coms && (List.range coms.length).all (bondOne p m (shareI p coms i))
theorem square_shape {p : Par} {m : List (List (List Int))} (h : squareB p m = true) : (m.length : Int) = secretsI p ∧ ∀ M ∈ m, ∀ r ∈ M, r.length = M.length := by
  simp only [squareB, Bool.and_eq_true, decide_eq_true_eq, Bool.not_eq_true', List.any_eq_false] at h
  refine ⟨h.1, fun M hM r hr => ?_⟩
  have h1 := h.2 M hM
  simp only [sqBad, allB, Bool.not_eq_true'] at h1
  rw [Bool.not_eq_false] at h1
  simp only [Bool.and_eq_true, decide_eq_true_eq, Bool.not_eq_true', List.any_eq_false] at h1
  have h2 := h1.2 r hr
  simp only [rowBad, Bool.or_eq_true, decide_eq_true_eq, not_or, Decidable.not_not] at h2
  have := h1.1
  have := h2.1
  omega
set_option maxRecDepth 100000 in
set_option maxHeartbeats 1000000 in
theorem bonded_any (p : Par) (v1 v2 : Value) (m : List (List (List Int))) (coms : List (List Int)) (i : Int) (X Y : Nat → Prop) (w : World) (hp : p.ok) (h1 : Sl (encS (encS encU)) X w v1 m) (h2 : Sl (encS encU) Y w v2 coms) (hi : U64 i) (hb : coms.length ≤ 100000) :
    Calls Try.prog 10 #[p.v, v1, v2, .int .u64 i] w fun e w' => e = .returned (.bool (bondedB p m coms i)) ∧ w.grownBy w' none := by
  have H1 := Lib.hid h1
  have H2 := Lib.hid h2
  have HB : Hid (Bk (w.alloc (.cells p.cells 25)) w.heap.size 25 p.cells) := Lib.hid (Bk.new w _ _)
  have HG : Hid (w.grownBy (w.alloc (.cells p.cells 25)) none) := Lib.hid (World.grownBy_alloc w _ none)
  have HSQ := Lib.hid (fun w' (hw : w.grownBy w' none) => square_any p v1 m X w' hp (h1.kept hw))
  have HFO := Lib.hid (fun w' (hw : w.grownBy w' none) => formed_any p v2 coms Y w' hp (h2.kept hw))
  have HSH := Lib.hid (fun w' (hw : w.grownBy w' none) => share_any p v2 coms i Y w' (h2.kept hw) hi hb)
  obtain ⟨A1, c1, rfl, _, _⟩ := h1.form
  obtain ⟨A2, c2, rfl, _, _⟩ := h2.form
  clear h1 h2 hp hi
  cases hsq : squareB p m with
  | false =>
    have HR : Hid (bondedB p m coms i = false) := Lib.hid (by simp [bondedB, hsq])
    rw [hsq] at HSQ
    clear hsq
    go_enter Try.func10, Try.ntmps10
    go_wp2_with fail
    refine (HSQ.out _ HG.out).mono ?_
    rintro e w1 ⟨rfl, hg⟩
    have HG1 := hidTrans hg HG
    clear hg
    go_wp2
    go_ret
    exact ⟨ret_bool HR.out.symm, HG1.out⟩
  | true =>
    have HSS := Lib.hid (square_shape hsq)
    cases hfo : formedB p coms with
    | false =>
      have HR : Hid (bondedB p m coms i = false) := Lib.hid (by simp [bondedB, hfo])
      rw [hsq] at HSQ
      rw [hfo] at HFO
      clear hsq hfo
      go_enter Try.func10, Try.ntmps10
      go_wp2_with fail
      refine (HSQ.out _ HG.out).mono ?_
      rintro e w1 ⟨rfl, hg⟩
      have HG1 := hidTrans hg HG
      have hp1 := (bkGrown hg HB).out.prule
      clear hg
      go_wp2_with fail
      refine (HFO.out _ HG1.out).mono ?_
      rintro e w2 ⟨rfl, hg⟩
      have HG2 := hidTrans hg HG1
      clear hg hp1
      go_wp2
      go_ret
      exact ⟨ret_bool HR.out.symm, HG2.out⟩
    | true =>
      have HR : Hid (bondedB p m coms i = (List.range coms.length).all (bondOne p m (shareI p coms i))) := Lib.hid (by simp [bondedB, hfo, hsq])
      have HCL : Hid ((coms.length : Int) = secretsI p) := Lib.hid (by simp only [formedB, allB, Bool.and_eq_true, decide_eq_true_eq] at hfo; exact hfo.1)
      rw [hsq] at HSQ
      rw [hfo] at HFO
      clear hsq hfo
      obtain ⟨N, hN⟩ : ∃ N, N = coms.length := ⟨_, rfl⟩
      have HNL : Hid ((shareI p coms i).length = N) := Lib.hid (by simp [shareI, hN])
      have HML : Hid (m.length = N) := Lib.hid (by have := HSS.out.1; have := HCL.out; omega)
      rw [← hN] at HR
      have hN9 : N ≤ 100000 := by omega
      clear hN
      go_enter Try.func10, Try.ntmps10
      go_wp2_with fail
      refine (HSQ.out _ HG.out).mono ?_
      rintro e w1 ⟨rfl, hg⟩
      have HG1 := hidTrans hg HG
      have HB1 := bkGrown hg HB
      have hp1 := HB1.out.prule
      clear hg
      go_wp2_with fail
      refine (HFO.out _ HG1.out).mono ?_
      rintro e w2 ⟨rfl, hg⟩
      have HG2 := hidTrans hg HG1
      have HB2 := bkGrown hg HB1
      have hp2 := HB2.out.prule
      clear hg hp1
      go_wp2_with fail
      refine (HSH.out _ HG2.out).mono ?_
      rintro e w3 ⟨v3, rfl, h3, hg⟩
      have HG3 := hidTrans hg HG2
      obtain ⟨A3, c3, e3, _, _⟩ := h3.form
      rw [HNL.out] at e3
      subst e3
      have H3 := Lib.hid h3
      have HST : Hid (∀ q, q < 0 → bondOne p m (shareI p coms i) q = true) := Lib.hid (fun q h => absurd h (Nat.not_lt_zero _))
      clear hg hp2 h3
      go_wp2_with fail
      go_loopg [26] N (fun g s26 wx => ∃ j : Nat, j + g = N ∧ s26 = .int .i64 j ∧ Hid (wx = w3) ∧ Hid (∀ q, q < j → bondOne p m (shareI p coms i) q = true))
      case atStart => exact ⟨0, by omega, rfl, Lib.hid rfl, HST⟩
      case round =>
        obtain ⟨j, hj, rfl, HW, HX⟩ := hrel
        obtain rfl : w3 = wr := HW.out.symm
        cases gk with
        | zero =>
          obtain rfl : j = N := by omega
          have HE : Hid (bondedB p m coms i = true) := Lib.hid (by rw [HR.out, List.all_eq_true]; exact fun q hq => HX.out q (List.mem_range.1 hq))
          clear HX HST HW
          go_wp2
          go_ret
          exact ⟨ret_bool HE.out.symm, HG3.out⟩
        | succ k =>
          have hjn : (j : Int) < (N : Int) := by omega
          have hj0 : (0 : Int) ≤ (j : Int) := by omega
          have hjm : j < m.length := by rw [HML.out]; omega
          have hjs : j < (shareI p coms i).length := by rw [HNL.out]; omega
          have hjmI : (j : Int) < (m.length : Int) := by omega
          obtain ⟨g, o, c', e, _, _, hcu, _⟩ := H3.out.atU hjs
          injection e with e1 e2 e3
          subst e1 e3
          obtain ⟨g1, o1, c1', u, e, _, _, hcm, hsm⟩ := (H1.out.kept HG3.out).atS hjm
          injection e with e11 e12 e13
          subst e11 e13
          obtain ⟨A4, c4, e4, _, _⟩ := hsm.form
          have HB1 : Hid (bondOne p m (shareI p coms i) j = (decide (m[j].length ≠ 0) && decide (headI m[j] = (shareI p coms i)[j]))) := Lib.hid (by simp [bondOne, List.getElem?_eq_getElem hjm, List.getElem?_eq_getElem hjs])
          have HNO : Hid (bondOne p m (shareI p coms i) j = false → bondedB p m coms i = false) := Lib.hid (fun h => by
            rw [HR.out, List.all_eq_false]
            exact ⟨j, List.mem_range.2 (by omega), by simp [h]⟩)
          have HYE : Hid (bondOne p m (shareI p coms i) j = true → ∀ q, q < j + 1 → bondOne p m (shareI p coms i) q = true) := Lib.hid (fun h q hq => by
            rcases Nat.lt_or_ge q j with h1 | h1
            · exact HX.out q h1
            · obtain rfl : q = j := by omega
              exact h)
          have HROW := Lib.hid (HSS.out.2 m[j] (List.getElem_mem hjm))
          generalize (shareI p coms i)[j] = want at *
          generalize m[j] = M at *
          clear HX HST e2 e12
          by_cases hl0 : M.length = 0
          · have hd : ((M.length : Int) == 0) = true := by simp [hl0]
            have HNE : Hid (bondedB p m coms i = false) := Lib.hid (HNO.out (by rw [HB1.out]; simp [hl0]))
            subst e4
            clear hsm HB1 HNO HYE HROW
            go_wp2
            go_ret
            exact ⟨ret_bool HNE.out.symm, HG3.out⟩
          · have hd : ((M.length : Int) == 0) = false := by simp [hl0]
            have hM0 : 0 < M.length := by omega
            have hM0I : (0 : Int) < (M.length : Int) := by omega
            clear e4
            obtain ⟨g2, o2, c2', u2, eu, _, _, hcr, hsr⟩ := hsm.atS hM0
            subst eu
            have hr0 : 0 < M[0].length := by rw [HROW.out M[0] (List.getElem_mem hM0)]; exact hM0
            have hr0I : (0 : Int) < (M[0].length : Int) := by omega
            obtain ⟨g3, o3, c3', e5, _, _, hcx, _⟩ := hsr.atU hr0
            subst e5
            have HHD : Hid (headI M = M[0][0]) := Lib.hid (by simp [headI, List.getElem?_eq_getElem hM0, List.getElem?_eq_getElem hr0])
            have hB : bondOne p m (shareI p coms i) j = decide (M[0][0] = want) := by rw [HB1.out, HHD.out]; simp [hl0]
            have HBE := Lib.hid hB
            simp only [Nat.zero_mul, Nat.add_zero] at hcr hcx
            clear hsm hsr HB1 HROW HHD hB
            generalize M[0][0] = y at *
            generalize M[0].length = n0 at *
            generalize M.length = nM at *
            by_cases hyw : y = want
            · have hd2 : (y != want) = false := by simp [hyw]
              have HY2 := Lib.hid (HYE.out (by rw [HBE.out]; simp [hyw]))
              subst hyw
              clear HNO HYE HBE
              go_wp2_with fail
              go_roundg k
              case measure => omega
              case rel => exact ⟨j + 1, by omega, by go_num, Lib.hid rfl, HY2⟩
            · have hd2 : (y != want) = true := by simp [hyw]
              have HNE : Hid (bondedB p m coms i = false) := Lib.hid (HNO.out (by rw [HBE.out]; simp [hyw]))
              clear HNO HYE HBE
              go_wp2
              go_ret
              exact ⟨ret_bool HNE.out.symm, HG3.out⟩
end Go.Proofs.Ytmbbahlenanpfaa
