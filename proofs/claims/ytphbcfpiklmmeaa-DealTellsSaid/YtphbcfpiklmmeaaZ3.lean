/- consistoryref08's RowComs, Fits, Lists: walked (printed by mkt.py). deal.fits, and consistoryref08's Fits and Lists, whatever comes in: walked (printed by mkt.py). deal.fits of what fits, RowFits, ColFits, Meets, walked (printed by mk_deali.py). consistoryref08's Fits and Lists, deal's and the document's RowFits, ColFits, Meets, whatever comes in: walked (printed by mkt.py). Params and pairs that came in by value. What comes in, with the bounds that the rows lay on every slice. deal.Pack of what is small; law18's size and large: walked. law18's large: walked (printed by mkt.py). Draws alone leave the memory as it was; the table of bits as it is listed. -/
import Derived.Test.YtphbcfpiklmmeaaZ2
import Derived.ProofKit
namespace Go.Proofs.Ytphbcfpiklmmeaa
open Go Go.RowKit Go.Shelf

theorem rangeT_succ {α : Type} (f : Nat → α) (n : Nat) : (List.range (n + 1)).map f = (List.range n).map f ++ [f n] := by simp [List.range_succ]
set_option maxRecDepth 100000 in
set_option maxHeartbeats 4000000 in
theorem rrowComs_any (p : Par) (v : Value) (M : List (List (List Int))) (x : Int) (X : Nat → Prop) (w : World) (hp : p.ok) (h : Sl (encS (encS encU)) X w v M) (hx : U64 x) (hb : M.length ≤ 100000) (hb2 : ∀ l ∈ M, l.length ≤ 100000 ∧ ∀ c ∈ l, c.length ≤ 100000) :
    Calls Try.prog 34 #[p.v, v, .int .u64 x] w (Gives (encS encU) (fun g => w.heap.size ≤ g) w (rowComsI p M x)) := by
  have H := Lib.hid h
  have HP := Lib.hid hp
  have HXU := Lib.hid hx
  have HB2 := Lib.hid hb2
  have HTN := Lib.hid (fun W => rtimes_nil p W hp)
  obtain ⟨A, c, rfl, hc1, hc2⟩ := h.form
  obtain ⟨w0, hw0⟩ : ∃ y, y = w.alloc (Obj.cells p.cells 24) := ⟨_, rfl⟩
  have HB0 : Hid (Bk w0 w.heap.size 24 p.cells) := Lib.hid (by rw [hw0]; exact Bk.new w _ _)
  have HG0 : Hid (w.grownBy w0 none) := Lib.hid (by rw [hw0]; exact World.grownBy_alloc w _ none)
  clear h hp hb2 hx
  go_enter Try.func34, Try.ntmps34
  go_wp2_with fail
  rw [← hw0]
  clear hw0
  go_loopg [7, 8] M.length (fun g s7 s8 wx => ∃ s : Nat, s + g = M.length ∧ s8 = .int .i64 s ∧ Hid (Acc (encS encU) w0.heap.size 35 (fun g => w0.heap.size ≤ g) wx s7 ((M.take s).map fun l => shareI p (turnedI p l) x) ∧ w0.grownBy wx none))
  case atStart => exact ⟨0, by omega, rfl, Lib.hid ⟨Acc.nil _ _ _ _ _, World.grownBy.refl _ _⟩⟩
  case round =>
    obtain ⟨s, hs, rfl, HX⟩ := hrel
    cases gk with
    | zero =>
      obtain rfl : s = M.length := by omega
      have HR : Hid (Sl (encS encU) (fun g => w.heap.size ≤ g) wr u7 (rowComsI p M x) ∧ w.grownBy wr none) := Lib.hid ⟨by
        have h := HX.out.1.sl
        rw [List.take_length] at h
        exact h.more fun g _ hg => Nat.le_trans HG0.out.size hg, HG0.out.trans HX.out.2⟩
      clear HX
      go_wp2
      go_ret
      exact ⟨_, rfl, HR.out⟩
    | succ m =>
      have hsL : (s : Int) < (M.length : Int) := by omega
      have hs0 : (0 : Int) ≤ (s : Int) := Int.natCast_nonneg s
      have hsN : s < M.length := by omega
      have HSN := Lib.hid (map_take_snoc' (fun l => shareI p (turnedI p l) x) M s hsN)
      have HA := Lib.hid HX.out.1
      have HG := Lib.hid HX.out.2
      have HLN : Hid ((((M.take s).map fun l => shareI p (turnedI p l) x).length + 1) * 24 ≤ 140737488355328) := Lib.hid (by simp; omega)
      obtain ⟨gM, oM, c', u, e, _, _, hcM, hsM⟩ := (H.out.kept (HG0.out.trans HX.out.2)).atS hsN
      injection e with e1 e2 e3
      subst e1 e3
      obtain ⟨Al, cl, e4, _, _⟩ := hsM.form
      subst e4
      have HSM := Lib.hid hsM
      have HBL : Hid (M[s].length ≤ 100000 ∧ ∀ c ∈ M[s], c.length ≤ 100000) := Lib.hid (HB2.out _ (List.getElem_mem hsN))
      have HCM : Hid (∀ W, wr.grownBy W none → W.cell? ⟨gM, oM + s, none⟩ = some (.slice Al M[s].length cl)) := Lib.hid (fun W hW => cellK hcM hW (by simp))
      obtain ⟨l, hl⟩ : ∃ y, y = M[s] := ⟨_, rfl⟩
      rw [← hl] at HSN HSM HBL HCM
      obtain ⟨L, hL⟩ : ∃ n, n = l.length := ⟨_, rfl⟩
      rw [← hL] at HSM HBL HCM
      have HLL := Lib.hid hL
      have hL9 : L ≤ 100000 := HBL.out.1
      have HN0 : Hid (0 = wideI (l.take 0)) := Lib.hid rfl
      have HWB : Hid (wideI l ≤ 100000) := Lib.hid (wide_le l _ HBL.out.2)
      clear HX hsM e2 hl hL hcM
      have hcM := HCM.out wr (World.grownBy.refl _ _)
      go_wp2_with fail
      go_loopg [9, 10] L (fun g s9 s10 wx => ∃ i n : Nat, i + g = L ∧ s10 = .int .i64 i ∧ s9 = .int .i64 n ∧ Hid (n = wideI (l.take i)) ∧ Hid (wr = wx))
      case atStart => exact ⟨0, 0, by omega, rfl, rfl, HN0, Lib.hid rfl⟩
      case round =>
        rename World => wi
        obtain ⟨i, n, hi, rfl, rfl, HN, HX⟩ := hrel
        obtain rfl : wr = wi := HX.out
        cases gk with
        | zero =>
          have eI : L = i := by omega
          subst eI
          have hno : ¬ ((L : Int) < (L : Int)) := by omega
          have HNW : Hid (n = wideI l) := Lib.hid (by have := HN.out; rwa [HLL.out, List.take_length] at this)
          have hn9 : n ≤ 100000 := by rw [HNW.out]; exact HWB.out
          clear HX HN HN0
          go_wp2_with fail
          clear hcM
          go_loopg [11, 12] n (fun g s11 s12 wx => ∃ j : Nat, j + g = n ∧ s12 = .int .i64 j ∧ Hid (Acc encU wr.heap.size 22 (fun g => wr.heap.size ≤ g) wx s11 (shareI p ((List.range j).map (colI p l)) x) ∧ wr.grownBy wx none))
          case atStart => exact ⟨0, by omega, rfl, Lib.hid ⟨Acc.nil _ _ _ _ _, World.grownBy.refl _ _⟩⟩
          case round =>
            rename World => wj
            obtain ⟨j, hj, rfl, HY⟩ := hrel
            cases gk with
            | zero =>
              obtain rfl : j = n := by omega
              have hno2 : ¬ ((j : Int) < (j : Int)) := by omega
              obtain ⟨A11, n11, c11, rfl⟩ := HY.out.1.sl.shape
              have HAO := Lib.hid (HA.out.kept HY.out.2)
              have HGO : Hid (w0.grownBy wj none) := Lib.hid (HG.out.trans HY.out.2)
              have HREP : Hid (Enc.rep (encS encU) (fun b => w0.heap.size ≤ b ∧ some b ≠ u7.ownBlock) wj [.slice A11 n11 c11] (shareI p (turnedI p l) x)) := Lib.hid ⟨_, rfl, by
                have h := HY.out.1.sl
                rw [show (List.range j).map (colI p l) = turnedI p l by rw [turnedI, HNW.out]] at h
                exact h.fresh HG.out HA.out⟩
              clear HY
              go_wp2_with (at_builtin; refine wpList_pushG rfl (.tmp 88) (.tmp 90) rfl (E := encS encU) el_nums HGO.out HAO.out (fun _ h => h) HREP.out HLN.out rfl rfl ?_)
              intro v3 w3 ha hg hgo
              have HFIN : Hid (Acc (encS encU) w0.heap.size 35 (fun g => w0.heap.size ≤ g) w3 v3 ((M.take (s + 1)).map fun l => shareI p (turnedI p l) x) ∧ w0.grownBy w3 none) := Lib.hid ⟨by rw [HSN.out]; simpa using ha, hg⟩
              clear ha hg hgo
              go_wp2_with fail
              go_roundg m
              case measure => omega
              case rel => exact ⟨s + 1, by omega, by go_num, HFIN⟩
            | succ q =>
              have hjn : (j : Int) < (n : Int) := by omega
              have hj0 : (0 : Int) ≤ (j : Int) := Int.natCast_nonneg j
              have HAJ := Lib.hid HY.out.1
              have HGJ := Lib.hid HY.out.2
              have HSJ : Hid (shareI p ((List.range (j + 1)).map (colI p l)) x = shareI p ((List.range j).map (colI p l)) x ++ [atI p (colI p l j) x]) := Lib.hid (by rw [rangeT_succ]; simp [shareI])
              have HLJ : Hid (((shareI p ((List.range j).map (colI p l)) x).length + 1) * 8 ≤ 140737488355328) := Lib.hid (by simp [shareI]; omega)
              clear HY
              have hcM := HCM.out wj HGJ.out
              go_wp2_with fail
              clear hcM
              go_loopg [13, 14] L (fun g s13 s14 wx => ∃ i : Nat, i + g = L ∧ s14 = .int .i64 i ∧ Hid (Acc encU wj.heap.size 22 (fun g => wj.heap.size ≤ g) wx s13 (colI p (l.take i) j) ∧ wj.grownBy wx none))
              case atStart => exact ⟨0, by omega, rfl, Lib.hid ⟨Acc.nil _ _ _ _ _, World.grownBy.refl _ _⟩⟩
              case round =>
                rename World => wk
                obtain ⟨i2, hi2, rfl, HZ⟩ := hrel
                have HGK : Hid (wr.grownBy wk none) := Lib.hid (HGJ.out.trans HZ.out.2)
                have hcM := HCM.out wk HGK.out
                have hpk := (HB0.out.grown (HG.out.trans HGK.out) (by simp)).prule
                cases gk with
                | zero =>
                  have eI : L = i2 := by omega
                  subst eI
                  have hno2 : ¬ ((L : Int) < (L : Int)) := by omega
                  have HSC : Hid (Sl encU TT wk u13 (colI p l j)) := Lib.hid (by
                    have h := HZ.out.1.sl
                    rw [show l.take L = l by rw [HLL.out, List.take_length]] at h
                    exact h.more fun _ _ _ => trivial)
                  obtain ⟨A13, n13, c13, rfl⟩ := HSC.out.shape
                  have HAT := Lib.hid (rat_all p _ (colI p l j) x TT wk HP.out HSC.out HXU.out)
                  have HAK := Lib.hid (HAJ.out.kept HZ.out.2)
                  clear HZ HSC
                  go_wp2_with fail
                  refine HAT.out.mono ?_
                  rintro e w5 ⟨rfl, hg5⟩
                  have HA5 := Lib.hid (HAK.out.kept hg5)
                  have HG5 : Hid (wr.grownBy w5 none) := Lib.hid (HGK.out.trans hg5)
                  clear hg5 hcM hpk HAT HAK
                  go_wp2_with (at_builtin; refine wpList_pushG rfl (.tmp 81) (.tmp 86) rfl (E := encU) (y := atI p (colI p l j) x) el_u64 HG5.out HA5.out (fun _ h => h) ⟨rfl, atI_U64 _ _ _⟩ HLJ.out rfl rfl ?_)
                  intro v3 w3 ha hg hgo
                  have HFIN : Hid (Acc encU wr.heap.size 22 (fun g => wr.heap.size ≤ g) w3 v3 (shareI p ((List.range (j + 1)).map (colI p l)) x) ∧ wr.grownBy w3 none) := Lib.hid ⟨by rw [HSJ.out]; exact ha, hg⟩
                  clear ha hg hgo
                  go_wp2_with fail
                  go_roundg q
                  case measure => omega
                  case rel => exact ⟨j + 1, by omega, by go_num, HFIN⟩
                | succ r =>
                  have hin : (i2 : Int) < (L : Int) := by omega
                  have hi0 : (0 : Int) ≤ (i2 : Int) := Int.natCast_nonneg i2
                  have hiN : i2 < l.length := by rw [← HLL.out]; omega
                  have HTK := Lib.hid (HTN.out wk)
                  have HSNC := Lib.hid (colI_snoc p l i2 j hiN)
                  have HAK := Lib.hid HZ.out.1
                  have HGW := Lib.hid HZ.out.2
                  have HCB : Hid ((l[i2]).length ≤ 100000) := Lib.hid (HBL.out.2 _ (List.getElem_mem hiN))
                  have HLC : Hid (((colI p (l.take i2) j).length + 1) * 8 ≤ 140737488355328) := Lib.hid (by simp [colI]; omega)
                  clear HZ
                  go_wp2_with fail
                  refine HTK.out.mono ?_
                  rintro e w5 ⟨rfl, hg5⟩
                  have HG5 : Hid (wj.grownBy w5 none) := Lib.hid (HGW.out.trans hg5)
                  have HA5 := Lib.hid (HAK.out.kept hg5)
                  obtain ⟨g2, o2, c2', u2, e, q1, q2, hc2', hs2⟩ := ((HSM.out.kept HGK.out).kept hg5).atS hiN
                  have e21 : Al = some ⟨g2, o2, none⟩ := by injection e
                  subst e21
                  obtain ⟨Ac, cc, e4, q3, q4⟩ := hs2.form
                  subst e4
                  clear q1 q2 q3 q4
                  have hcM5 := HCM.out w5 (HGK.out.trans hg5)
                  clear e hcM hpk hg5 HTK HAK HGK
                  have HUX := Lib.hid (colI_U64 p l[i2] j _ _ _ hs2)
                  have hcn : l[i2].length ≤ 100000 := HCB.out
                  by_cases hjl : j < l[i2].length
                  · obtain ⟨g3, o3, c3', e, q1, q2, hc3', q3⟩ := hs2.atU hjl
                    have e31 : Ac = some ⟨g3, o3, none⟩ := by injection e
                    subst e31
                    clear q1 q2 q3
                    have hjlI : (j : Int) < (l[i2].length : Int) := by omega
                    rw [show l[i2][j]?.getD (timesI p.P []) = l[i2][j] by rw [List.getElem?_eq_getElem hjl]; rfl] at HSNC HUX
                    obtain ⟨z, hz⟩ : ∃ z, z = l[i2][j] := ⟨_, rfl⟩
                    rw [← hz] at HSNC HUX hc3'
                    obtain ⟨nn, hnn⟩ : ∃ z, z = l[i2].length := ⟨_, rfl⟩
                    rw [← hnn] at hc2' hjlI hcn
                    clear e hs2 hz hnn hjl HCB hiN
                    go_wp2_with (at_builtin; refine wpList_pushG rfl (.tmp 77) (.tmp 79) rfl (E := encU) (y := z) el_u64 HG5.out HA5.out (fun _ h => h) ⟨rfl, HUX.out⟩ HLC.out rfl rfl ?_)
                    intro v3 w3 ha hg hgo
                    have HFIN : Hid (Acc encU wj.heap.size 22 (fun g => wj.heap.size ≤ g) w3 v3 (colI p (l.take (i2 + 1)) j) ∧ wj.grownBy w3 none) := Lib.hid ⟨by rw [HSNC.out]; exact ha, hg⟩
                    clear ha hg hgo
                    go_wp2_with fail
                    go_roundg r
                    case measure => omega
                    case rel => exact ⟨i2 + 1, by omega, by go_num, HFIN⟩
                  · have hjlI : ¬ ((j : Int) < (l[i2].length : Int)) := by omega
                    rw [show l[i2][j]?.getD (timesI p.P []) = timesI p.P [] by rw [List.getElem?_eq_none (by omega)]; rfl] at HSNC HUX
                    obtain ⟨nn, hnn⟩ : ∃ z, z = l[i2].length := ⟨_, rfl⟩
                    rw [← hnn] at hc2' hjlI hcn
                    clear hs2 hnn hjl HCB hiN
                    go_wp2_with (at_builtin; refine wpList_pushG rfl (.tmp 77) (.tmp 79) rfl (E := encU) (y := timesI p.P []) el_u64 HG5.out HA5.out (fun _ h => h) ⟨rfl, HUX.out⟩ HLC.out rfl rfl ?_)
                    intro v3 w3 ha hg hgo
                    have HFIN : Hid (Acc encU wj.heap.size 22 (fun g => wj.heap.size ≤ g) w3 v3 (colI p (l.take (i2 + 1)) j) ∧ wj.grownBy w3 none) := Lib.hid ⟨by rw [HSNC.out]; exact ha, hg⟩
                    clear ha hg hgo
                    go_wp2_with fail
                    go_roundg r
                    case measure => omega
                    case rel => exact ⟨i2 + 1, by omega, by go_num, HFIN⟩
        | succ q =>
          have hin : (i : Int) < (L : Int) := by omega
          have hi0 : (0 : Int) ≤ (i : Int) := Int.natCast_nonneg i
          have hiN : i < l.length := by rw [← HLL.out]; omega
          obtain ⟨g2, o2, c2', u2, e, q1, q2, hc2', hs2⟩ := HSM.out.atS hiN
          have e21 : Al = some ⟨g2, o2, none⟩ := by injection e
          subst e21
          obtain ⟨Ac, cc, e4, q3, q4⟩ := hs2.form
          subst e4
          clear q1 q2 q3 q4
          have HSW : Hid (wideI (l.take (i + 1)) = max n l[i].length) := Lib.hid (by rw [wide_snoc l i hiN, HN.out])
          have hnb : n ≤ 100000 := by rw [HN.out]; exact wide_le _ _ (fun c hc => HBL.out.2 c (List.mem_of_mem_take hc))
          have hlb : l[i].length ≤ 100000 := HBL.out.2 _ (List.getElem_mem hiN)
          obtain ⟨nn, hnn⟩ : ∃ z, z = l[i].length := ⟨_, rfl⟩
          rw [← hnn] at hc2' hlb HSW
          clear e hs2 HN hnn hiN
          go_wp2_with fail
          all_goals
            go_roundg q
            case measure => omega
            case rel => exact ⟨i + 1, max n nn, by omega, by go_num, by congr 1; omega, Lib.hid HSW.out.symm, Lib.hid rfl⟩
end Go.Proofs.Ytphbcfpiklmmeaa

namespace Go.Proofs.Ytphbcfpiklmmeaa
open Go Go.RowKit Go.Shelf

theorem take_step {α : Type} {a b : List α} {i : Nat} (ha : i < a.length) (hb : i < b.length) (h : a.take i = b.take i) (e : a[i] = b[i]) : a.take (i + 1) = b.take (i + 1) := by
  rw [List.take_succ_eq_append_getElem ha, List.take_succ_eq_append_getElem hb, h, e]
theorem take_all {α : Type} {a b : List α} {n : Nat} (ha : a.length = n) (hb : b.length = n) (h : a.take n = b.take n) : a = b := by
  rwa [List.take_of_length_le (by omega), List.take_of_length_le (by omega)] at h
def dfitsB (p : Par) (l : List (List (Int × Int))) (cs : List (List Int)) : Bool := decide ((l.map fun c => c.map (commitI p)) = cs)
set_option maxRecDepth 100000 in
set_option maxHeartbeats 4000000 in
theorem dfits_any (p : Par) (v1 v2 : Value) (l : List (List (Int × Int))) (cs : List (List Int)) (X Y : Nat → Prop) (w : World) (hp : p.ok) (h1 : Sl (encS encP) X w v1 l) (h2 : Sl (encS encU) Y w v2 cs) (hb : l.length ≤ 1000) (hb2 : ∀ c ∈ l, c.length ≤ 1000) :
    Calls Try.prog 30 #[p.v, v1, v2] w fun e w' => e = .returned (.bool (dfitsB p l cs)) ∧ w.grownBy w' none := by
  have H1 := Lib.hid h1
  have H2 := Lib.hid h2
  have HP := Lib.hid hp
  have HB2 := Lib.hid hb2
  obtain ⟨A1, c1, rfl, q1, q2⟩ := h1.form
  clear q1 q2
  obtain ⟨A2, c2, rfl, q1, q2⟩ := h2.form
  clear q1 q2
  obtain ⟨B, hB⟩ : ∃ B, B = dfitsB p l cs := ⟨_, rfl⟩
  have HBB := Lib.hid hB
  rw [← hB]
  obtain ⟨w0, hw0⟩ : ∃ y, y = w.alloc (Obj.cells p.cells 24) := ⟨_, rfl⟩
  have HB0 : Hid (Bk w0 w.heap.size 24 p.cells) := Lib.hid (by rw [hw0]; exact Bk.new w _ _)
  have HG0 : Hid (w.grownBy w0 none) := Lib.hid (by rw [hw0]; exact World.grownBy_alloc w _ none)
  have HWS : Hid (w.heap.size < w0.heap.size) := Lib.hid HB0.out.lt
  by_cases hl : l.length = cs.length
  · have HLC := Lib.hid hl
    rw [← hl] at H2 ⊢
    obtain ⟨L, hL⟩ : ∃ y, y = l.length := ⟨_, rfl⟩
    have HL := Lib.hid hL
    rw [← hL] at H1 H2 hb ⊢
    clear h1 h2 hp hb2 hL hl hB
    go_enter Try.func30, Try.ntmps30
    go_upto_region 4 with (fail)
    rw [← hw0]
    clear hw0
    go_loopg [17] L (fun gk s17 wx => ∃ i : Nat, i + gk = L ∧ s17 = .int .i64 i ∧ Hid (w0.grownBy wx none ∧ (l.map fun c => c.map (commitI p)).take i = cs.take i))
    case atStart => exact ⟨0, by omega, rfl, Lib.hid ⟨World.grownBy.refl _ _, rfl⟩⟩
    case round =>
      obtain ⟨i, hiL, rfl, HX⟩ := hrel
      cases gk with
      | zero =>
        have eI : L = i := by omega
        subst eI
        have hno : ¬ ((L : Int) < (L : Int)) := by omega
        have HGF : Hid (w.grownBy wr none) := Lib.hid (HG0.out.trans HX.out.1)
        have HT : Hid (B = true) := Lib.hid (by
          rw [HBB.out]
          exact decide_eq_true (take_all (by rw [List.length_map]; exact HL.out.symm) (by rw [← HLC.out]; exact HL.out.symm) HX.out.2))
        clear HX
        go_wp2
        go_ret
        exact ⟨ret_bool HT.out.symm, HGF.out⟩
      | succ m =>
        have hiI : (i : Int) < (L : Int) := by omega
        have hi0 : (0 : Int) ≤ (i : Int) := Int.natCast_nonneg i
        have hi : i < l.length := by rw [← HL.out]; omega
        have hi2 : i < cs.length := by rw [← HLC.out]; exact hi
        obtain ⟨gA, oA, cA', uA, eA, q1, q2, hcA, hsA⟩ := (H1.out.kept (HG0.out.trans HX.out.1)).atS hi
        clear q1 q2
        injection eA with eA1 eA2 eA3
        clear eA2
        subst eA1 eA3
        obtain ⟨gB, oB, cB', uB, eB, q1, q2, hcB, hsB⟩ := (H2.out.kept (HG0.out.trans HX.out.1)).atS hi2
        clear q1 q2
        injection eB with eB1 eB2 eB3
        clear eB2
        subst eB1 eB3
        have HSTEP : Hid (l[i].map (commitI p) = cs[i] → (l.map fun c => c.map (commitI p)).take (i + 1) = cs.take (i + 1)) := Lib.hid (fun h => take_step (by rw [List.length_map]; exact hi) hi2 HX.out.2 (by rw [List.getElem_map]; exact h))
        have HNO : Hid (l[i].map (commitI p) ≠ cs[i] → B = false) := Lib.hid (fun h => by
          rw [HBB.out]
          exact decide_eq_false fun e => h (by
            have h1 : (l.map fun c => c.map (commitI p))[i]? = cs[i]? := by rw [e]
            rw [List.getElem?_eq_getElem (by rw [List.length_map]; exact hi), List.getElem?_eq_getElem hi2, List.getElem_map] at h1
            exact Option.some.inj h1))
        obtain ⟨y, hy⟩ : ∃ y, y = l[i] := ⟨_, rfl⟩
        obtain ⟨z, hz⟩ : ∃ z, z = cs[i] := ⟨_, rfl⟩
        have HYL : Hid (y.length ≤ 1000) := Lib.hid (by rw [hy]; exact HB2.out _ (List.getElem_mem hi))
        rw [← hy] at hsA HSTEP HNO
        rw [← hz] at hsB HSTEP HNO
        obtain ⟨Ai, ci, ef, q1, q2⟩ := hsA.form
        clear q1 q2
        obtain ⟨Bi, di, eb, q1, q2⟩ := hsB.form
        clear q1 q2
        subst ef eb
        obtain ⟨ny, hny⟩ : ∃ k, k = y.length := ⟨_, rfl⟩
        obtain ⟨nz, hnz⟩ : ∃ k, k = z.length := ⟨_, rfl⟩
        have HNY := Lib.hid (And.intro hny hnz)
        have hny9 : ny ≤ 1000 := by rw [hny]; exact HYL.out
        rw [← hny] at hsA hcA
        rw [← hnz] at hsB hcB
        have HGR : Hid (w0.grownBy wr.drew none) := Lib.hid (HX.out.1.trans (grown_drewN' wr 1))
        have HL6 : Hid (∀ W, wr.drew.grownBy W none → W.cell? ⟨gA, oA + i, none⟩ = some (.slice Ai ny ci) ∧ W.cell? ⟨gB, oB + i, none⟩ = some (.slice Bi nz di)) := Lib.hid (fun W hg => ⟨cellK hcA ((grown_drewN' wr 1).trans hg) (by simp), cellK hcB ((grown_drewN' wr 1).trans hg) (by simp)⟩)
        have HSA := Lib.hid (hsA.kept (grown_drewN' wr 1))
        have HSB := Lib.hid (hsB.kept (grown_drewN' wr 1))
        clear hsA hsB hcA hcB hy hz hny hnz HX hi2
        go_upto_region 6 with (fail)
        refine wp_region_mono 11 (by kernel_rfl) (by kernel_rfl) ?_
        -- op 0 (slot 20): move
        refine MonoR.step (Pv.eq (.slice (some ⟨gA, oA, none⟩) L c1)) [] (by kernel_rfl) (fun w' hw' => ?_) ?_
        · refine ask_do rfl fun K hK => ?_
          go_simp
          exact hK _ _ rfl rfl (World.grownBy.refl _ none)
        -- op 1 (slot 21): move
        refine MonoR.step (Pv.eq (.int .i64 (i : Int))) [] (by kernel_rfl) (fun w' hw' => ?_) ?_
        · refine ask_do rfl fun K hK => ?_
          go_simp
          exact hK _ _ rfl rfl (World.grownBy.refl _ none)
        -- op 2 (slot 22): indexAddr
        refine MonoR.step (Pv.eq (.pointer (some ⟨gA, oA + i, none⟩))) [(0, 20), (1, 21)] (by kernel_rfl) (fun w' hw' => ?_) ?_
        · intro x20 h20
          intro x21 h21
          have e20 : x20 = .slice (some ⟨gA, oA, none⟩) L c1 := h20
          clear h20
          subst e20
          have e21 : x21 = .int .i64 (i : Int) := h21
          clear h21
          subst e21
          refine ask_do rfl fun K hK => ?_
          go_simp
          exact hK _ _ rfl rfl (World.grownBy.refl _ none)
        -- op 3 (slot 23): load
        refine MonoR.step (Pv.eq (.slice Ai ny ci)) [(2, 22)] (by kernel_rfl) (fun w' hw' => ?_) ?_
        · intro x22 h22
          have e22 : x22 = .pointer (some ⟨gA, oA + i, none⟩) := h22
          clear h22
          subst e22
          refine ask_do rfl fun K hK => ?_
          obtain ⟨q0, q1⟩ := HL6.out w' hw'
          go_simp
          exact hK _ _ rfl rfl (World.grownBy.refl _ none)
        -- op 4 (slot 24): call
        refine MonoR.step (Pv.eq (.int .i64 (ny : Int))) [(3, 23)] (by kernel_rfl) (fun w' hw' => ?_) ?_
        · intro x23 h23
          have e23 : x23 = .slice Ai ny ci := h23
          clear h23
          subst e23
          refine ask_do rfl fun K hK => ?_
          go_simp
          exact hK _ _ rfl rfl (World.grownBy.refl _ none)
        -- op 5 (slot 25): move
        refine MonoR.step (Pv.eq (.slice (some ⟨gB, oB, none⟩) L c2)) [] (by kernel_rfl) (fun w' hw' => ?_) ?_
        · refine ask_do rfl fun K hK => ?_
          go_simp
          exact hK _ _ rfl rfl (World.grownBy.refl _ none)
        -- op 6 (slot 26): move
        refine MonoR.step (Pv.eq (.int .i64 (i : Int))) [] (by kernel_rfl) (fun w' hw' => ?_) ?_
        · refine ask_do rfl fun K hK => ?_
          go_simp
          exact hK _ _ rfl rfl (World.grownBy.refl _ none)
        -- op 7 (slot 27): indexAddr
        refine MonoR.step (Pv.eq (.pointer (some ⟨gB, oB + i, none⟩))) [(5, 25), (6, 26)] (by kernel_rfl) (fun w' hw' => ?_) ?_
        · intro x25 h25
          intro x26 h26
          have e25 : x25 = .slice (some ⟨gB, oB, none⟩) L c2 := h25
          clear h25
          subst e25
          have e26 : x26 = .int .i64 (i : Int) := h26
          clear h26
          subst e26
          refine ask_do rfl fun K hK => ?_
          go_simp
          exact hK _ _ rfl rfl (World.grownBy.refl _ none)
        -- op 8 (slot 28): load
        refine MonoR.step (Pv.eq (.slice Bi nz di)) [(7, 27)] (by kernel_rfl) (fun w' hw' => ?_) ?_
        · intro x27 h27
          have e27 : x27 = .pointer (some ⟨gB, oB + i, none⟩) := h27
          clear h27
          subst e27
          refine ask_do rfl fun K hK => ?_
          obtain ⟨q0, q1⟩ := HL6.out w' hw'
          go_simp
          exact hK _ _ rfl rfl (World.grownBy.refl _ none)
        -- op 9 (slot 29): call
        refine MonoR.step (Pv.eq (.int .i64 (nz : Int))) [(8, 28)] (by kernel_rfl) (fun w' hw' => ?_) ?_
        · intro x28 h28
          have e28 : x28 = .slice Bi nz di := h28
          clear h28
          subst e28
          refine ask_do rfl fun K hK => ?_
          go_simp
          exact hK _ _ rfl rfl (World.grownBy.refl _ none)
        -- op 10 (slot 30): binOp
        refine MonoR.step (Pv.eq (.bool ((ny : Int) != (nz : Int)))) [(4, 24), (9, 29)] (by kernel_rfl) (fun w' hw' => ?_) ?_
        · intro x24 h24
          intro x29 h29
          have e24 : x24 = .int .i64 (ny : Int) := h24
          clear h24
          subst e24
          have e29 : x29 = .int .i64 (nz : Int) := h29
          clear h29
          subst e29
          refine ask_do rfl fun K hK => ?_
          go_simp
          exact hK _ _ rfl rfl (World.grownBy.refl _ none)
        
        intro w3 hw3
        intro y0 k0 y1 k1 y2 k2 y3 k3 y4 k4 y5 k5 y6 k6 y7 k7 y8 k8 y9 k9 y10 k10
        have e10 : y10 = .bool ((ny : Int) != (nz : Int)) := k10
        subst e10
        obtain ⟨q0, q1⟩ := HL6.out w3 hw3
        have HQ1 := Lib.hid q1
        have HS3 := Lib.hid (HSA.out.kept hw3)
        have HT3 := Lib.hid (HSB.out.kept hw3)
        have HG3 : Hid (w0.grownBy w3 none) := Lib.hid (HGR.out.trans hw3)
        clear k0 k1 k2 k3 k4 k5 k6 k7 k8 k9 k10 hw3 HL6 HSA HSB HGR q1
        refine wpList_nil ?_
        simp only [Act.put, List.setIfInBounds_toArray, List.set_cons_zero, List.set_cons_succ]
        by_cases hnn : ny = nz
        · subst hnn
          have hne : ((ny : Int) != (ny : Int)) = false := by simp
          go_upto_region 9 with (fail)
          go_loopg [36] ny (fun gk s36 wx => ∃ j : Nat, j + gk = ny ∧ s36 = .int .i64 j ∧ Hid (w3.grownBy wx none ∧ (y.map (commitI p)).take j = z.take j))
          case atStart => exact ⟨0, by omega, rfl, Lib.hid ⟨World.grownBy.refl _ _, rfl⟩⟩
          case round =>
            rename World => wj
            obtain ⟨j, hjn, rfl, HY⟩ := hrel
            cases gk with
            | zero =>
              have eJ : ny = j := by omega
              subst eJ
              have hno : ¬ ((ny : Int) < (ny : Int)) := by omega
              have HFIN : Hid (w0.grownBy wj none ∧ (l.map fun c => c.map (commitI p)).take (i + 1) = cs.take (i + 1)) := Lib.hid ⟨HG3.out.trans HY.out.1, HSTEP.out (take_all (by rw [List.length_map]; exact HNY.out.1.symm) HNY.out.2.symm HY.out.2)⟩
              clear HY HS3 HT3 q0 hi
              go_wp2_with fail
              go_roundg m
              case measure => omega
              case rel => exact ⟨i + 1, by omega, by go_num, HFIN⟩
            | succ q =>
              have hjI : (j : Int) < (ny : Int) := by omega
              have hj0 : (0 : Int) ≤ (j : Int) := Int.natCast_nonneg j
              have hjy : j < y.length := by rw [← HNY.out.1]; omega
              have hjz : j < z.length := by rw [← HNY.out.2]; omega
              obtain ⟨ga, oa, ca, ea, q1, q2, hc0, hc1, hu1, hu2⟩ := (HS3.out.kept HY.out.1).atP hjy
              clear q1 q2
              injection ea with ea1 ea2 ea3
              clear ea2
              subst ea1 ea3
              obtain ⟨gb, ob, cb, eb, q1, q2, hcb, hub⟩ := (HT3.out.kept HY.out.1).atU hjz
              clear q1 q2
              injection eb with eb1 eb2 eb3
              clear eb2
              subst eb1 eb3
              have HSTJ : Hid (commitI p y[j] = z[j] → (y.map (commitI p)).take (j + 1) = z.take (j + 1)) := Lib.hid (fun h => take_step (by rw [List.length_map]; exact hjy) hjz HY.out.2 (by rw [List.getElem_map]; exact h))
              have HNOJ : Hid (commitI p y[j] ≠ z[j] → B = false) := Lib.hid (fun h => HNO.out fun e => h (by
                have h1 : (y.map (commitI p))[j]? = z[j]? := by rw [e]
                rw [List.getElem?_eq_getElem (by rw [List.length_map]; exact hjy), List.getElem?_eq_getElem hjz, List.getElem_map] at h1
                exact Option.some.inj h1))
              obtain ⟨x, hx⟩ : ∃ x, x = y[j] := ⟨_, rfl⟩
              obtain ⟨s, hs⟩ : ∃ s, s = z[j] := ⟨_, rfl⟩
              rw [← hx] at hc0 hc1 hu1 hu2 HSTJ HNOJ
              rw [← hs] at hcb HSTJ HNOJ
              obtain ⟨x1, x2⟩ := x
              simp only at hc0 hc1 hu1 hu2
              obtain ⟨c, hc⟩ : ∃ c, c = commitI p (x1, x2) := ⟨_, rfl⟩
              rw [← hc] at HSTJ HNOJ
              obtain ⟨wa, hwa⟩ : ∃ y, y = wj.alloc (Obj.cells #[.int .u64 x1, .int .u64 x2] 44) := ⟨_, rfl⟩
              obtain ⟨Bb, hBb⟩ : ∃ y, y = wj.heap.size := ⟨_, rfl⟩
              have HGA : Hid (wj.grownBy wa none) := Lib.hid (by rw [hwa]; exact World.grownBy_alloc _ _ none)
              have HBA : Hid (Bk wa Bb 44 #[.int .u64 x1, .int .u64 x2]) := Lib.hid (by rw [hwa, hBb]; exact Bk.new _ _ _)
              have HBP : Hid (Bk wj w.heap.size 24 p.cells) := Lib.hid (HB0.out.grown (HG3.out.trans HY.out.1) (by simp))
              have HGW : Hid (wj.grownBy wa.drew none) := Lib.hid (HGA.out.trans (grown_drewN' wa 1))
              have HL11 : Hid (∀ W, wa.drew.grownBy W none → (∀ o, W.cell? ⟨w.heap.size, o, none⟩ = (#[.int .u64 p.P, .int .u64 p.Q, .int .u64 p.G, .int .u64 p.H, .int .i64 p.Nodes, .int .i64 p.N, .int .i64 p.T, .int .i64 p.K, .int .i64 p.D, .int .i64 p.R, .int .i64 p.M, .int .i64 p.X] : Array Value)[o]?) ∧ W.cell? ⟨Bb, 0, none⟩ = some (.int .u64 x1) ∧ W.cell? ⟨Bb, 1, none⟩ = some (.int .u64 x2) ∧ W.cell? ⟨gB, oB + i, none⟩ = some (.slice (some ⟨gb, ob, none⟩) ny di) ∧ W.cell? ⟨gb, ob + j, none⟩ = some (.int .u64 s)) := Lib.hid (fun W hW => ⟨(HBP.out.grown (HGW.out.trans hW) (by simp)).prule, (HBA.out.grown ((grown_drewN' wa 1).trans hW) (by simp)).cell 0, (HBA.out.grown ((grown_drewN' wa 1).trans hW) (by simp)).cell 1, cellK HQ1.out ((HY.out.1.trans HGW.out).trans hW) (by simp), cellK hcb (HGW.out.trans hW) (by simp)⟩)
              have HCM : Hid (∀ W, Calls Try.prog 48 #[p.v, .agg #[.int .u64 x1, .int .u64 x2]] W fun e' w' => e' = .returned (.int .u64 c) ∧ W.grownBy w' none) := Lib.hid (fun W => by rw [hc]; exact commit_any p (x1, x2) W HP.out hu1 hu2)
              have HG4 : Hid (w3.grownBy wa.drew none) := Lib.hid (HY.out.1.trans HGW.out)
              clear hcb hub hx hs hu1 hu2 HY q0 hjy hjz hc
              go_upto_region 11 with (fail)
              rw [← hwa, ← hBb]
              clear hwa hBb hc0 hc1
              refine wp_region_mono 11 (by kernel_rfl) (by kernel_rfl) ?_
              -- op 0 (slot 41): load
              refine MonoR.step (Pv.eq (p.v)) [] (by kernel_rfl) (fun w' hw' => ?_) ?_
              · refine ask_do rfl fun K hK => ?_
                obtain ⟨q0, q1, q2, q3, q4⟩ := HL11.out w' hw'
                go_simp
                exact hK _ _ rfl rfl (World.grownBy.refl _ none)
              -- op 1 (slot 42): load
              refine MonoR.step (Pv.eq (.agg #[.int .u64 x1, .int .u64 x2])) [] (by kernel_rfl) (fun w' hw' => ?_) ?_
              · refine ask_do rfl fun K hK => ?_
                obtain ⟨q0, q1, q2, q3, q4⟩ := HL11.out w' hw'
                go_simp
                exact hK _ _ rfl rfl (World.grownBy.refl _ none)
              -- op 2 (slot 43): call
              refine MonoR.step (Pv.eq (.int .u64 c)) [(0, 41), (1, 42)] (by kernel_rfl) (fun w' hw' => ?_) ?_
              · intro x41 h41
                intro x42 h42
                have e41 : x41 = p.v := h41
                clear h41
                subst e41
                have e42 : x42 = .agg #[.int .u64 x1, .int .u64 x2] := h42
                clear h42
                subst e42
                refine ask_do rfl fun K hK => ?_
                go_simp
                refine (HCM.out w').mono ?_
                rintro e w3 ⟨rfl, hg⟩
                exact hK _ _ rfl rfl hg
              -- op 3 (slot 44): move
              refine MonoR.step (Pv.eq (.slice (some ⟨gB, oB, none⟩) L c2)) [] (by kernel_rfl) (fun w' hw' => ?_) ?_
              · refine ask_do rfl fun K hK => ?_
                go_simp
                exact hK _ _ rfl rfl (World.grownBy.refl _ none)
              -- op 4 (slot 45): move
              refine MonoR.step (Pv.eq (.int .i64 (i : Int))) [] (by kernel_rfl) (fun w' hw' => ?_) ?_
              · refine ask_do rfl fun K hK => ?_
                go_simp
                exact hK _ _ rfl rfl (World.grownBy.refl _ none)
              -- op 5 (slot 46): indexAddr
              refine MonoR.step (Pv.eq (.pointer (some ⟨gB, oB + i, none⟩))) [(3, 44), (4, 45)] (by kernel_rfl) (fun w' hw' => ?_) ?_
              · intro x44 h44
                intro x45 h45
                have e44 : x44 = .slice (some ⟨gB, oB, none⟩) L c2 := h44
                clear h44
                subst e44
                have e45 : x45 = .int .i64 (i : Int) := h45
                clear h45
                subst e45
                refine ask_do rfl fun K hK => ?_
                go_simp
                exact hK _ _ rfl rfl (World.grownBy.refl _ none)
              -- op 6 (slot 47): load
              refine MonoR.step (Pv.eq (.slice (some ⟨gb, ob, none⟩) ny di)) [(5, 46)] (by kernel_rfl) (fun w' hw' => ?_) ?_
              · intro x46 h46
                have e46 : x46 = .pointer (some ⟨gB, oB + i, none⟩) := h46
                clear h46
                subst e46
                refine ask_do rfl fun K hK => ?_
                obtain ⟨q0, q1, q2, q3, q4⟩ := HL11.out w' hw'
                go_simp
                exact hK _ _ rfl rfl (World.grownBy.refl _ none)
              -- op 7 (slot 48): move
              refine MonoR.step (Pv.eq (.int .i64 (j : Int))) [] (by kernel_rfl) (fun w' hw' => ?_) ?_
              · refine ask_do rfl fun K hK => ?_
                go_simp
                exact hK _ _ rfl rfl (World.grownBy.refl _ none)
              -- op 8 (slot 49): indexAddr
              refine MonoR.step (Pv.eq (.pointer (some ⟨gb, ob + j, none⟩))) [(6, 47), (7, 48)] (by kernel_rfl) (fun w' hw' => ?_) ?_
              · intro x47 h47
                intro x48 h48
                have e47 : x47 = .slice (some ⟨gb, ob, none⟩) ny di := h47
                clear h47
                subst e47
                have e48 : x48 = .int .i64 (j : Int) := h48
                clear h48
                subst e48
                refine ask_do rfl fun K hK => ?_
                go_simp
                exact hK _ _ rfl rfl (World.grownBy.refl _ none)
              -- op 9 (slot 50): load
              refine MonoR.step (Pv.eq (.int .u64 s)) [(8, 49)] (by kernel_rfl) (fun w' hw' => ?_) ?_
              · intro x49 h49
                have e49 : x49 = .pointer (some ⟨gb, ob + j, none⟩) := h49
                clear h49
                subst e49
                refine ask_do rfl fun K hK => ?_
                obtain ⟨q0, q1, q2, q3, q4⟩ := HL11.out w' hw'
                go_simp
                exact hK _ _ rfl rfl (World.grownBy.refl _ none)
              -- op 10 (slot 51): binOp
              refine MonoR.step (Pv.eq (.bool (c != s))) [(2, 43), (9, 50)] (by kernel_rfl) (fun w' hw' => ?_) ?_
              · intro x43 h43
                intro x50 h50
                have e43 : x43 = .int .u64 c := h43
                clear h43
                subst e43
                have e50 : x50 = .int .u64 s := h50
                clear h50
                subst e50
                refine ask_do rfl fun K hK => ?_
                go_simp
                exact hK _ _ rfl rfl (World.grownBy.refl _ none)
              
              intro w5 hw5
              intro y0 k0 y1 k1 y2 k2 y3 k3 y4 k4 y5 k5 y6 k6 y7 k7 y8 k8 y9 k9 y10 k10
              have e10 : y10 = .bool (c != s) := k10
              subst e10
              have HG5 : Hid (w3.grownBy w5 none) := Lib.hid (HG4.out.trans hw5)
              clear k0 k1 k2 k3 k4 k5 k6 k7 k8 k9 k10 hw5 HL11 HCM HG4 HGW HBP HBA HGA
              refine wpList_nil ?_
              simp only [Act.put, List.setIfInBounds_toArray, List.set_cons_zero, List.set_cons_succ]
              by_cases hcs : c = s
              · have hnc : (c != s) = false := by simpa using hcs
                have HFIN : Hid (w3.grownBy w5 none ∧ (y.map (commitI p)).take (j + 1) = z.take (j + 1)) := Lib.hid ⟨HG5.out, HSTJ.out hcs⟩
                clear hcs
                go_wp2_with fail
                go_roundg q
                case measure => omega
                case rel => exact ⟨j + 1, by omega, by go_num, HFIN⟩
              · have hnc : (c != s) = true := by simpa using hcs
                have HF := Lib.hid (HNOJ.out hcs)
                have HGF : Hid (w.grownBy w5 none) := Lib.hid (HG0.out.trans (HG3.out.trans HG5.out))
                clear hcs
                go_wp2_with fail
                go_ret
                exact ⟨ret_bool HF.out.symm, HGF.out⟩
        · have hne : ((ny : Int) != (nz : Int)) = true := by simpa using (by omega : ¬ (ny : Int) = (nz : Int))
          have HF := Lib.hid (HNO.out fun e => hnn (by rw [HNY.out.1, HNY.out.2, ← e, List.length_map]))
          have HGF : Hid (w.grownBy w3 none) := Lib.hid (HG0.out.trans HG3.out)
          clear hnn
          go_wp2_with fail
          go_ret
          exact ⟨ret_bool HF.out.symm, HGF.out⟩
  · have hne : ((l.length : Int) != (cs.length : Int)) = true := by simpa using (by omega : ¬ (l.length : Int) = (cs.length : Int))
    have HF : Hid (B = false) := Lib.hid (by
      rw [HBB.out]
      exact decide_eq_false fun h => hl (by rw [← h, List.length_map]))
    obtain ⟨n1, hn1⟩ : ∃ n, n = l.length := ⟨_, rfl⟩
    obtain ⟨n2, hn2⟩ : ∃ n, n = cs.length := ⟨_, rfl⟩
    rw [← hn1, ← hn2] at hne ⊢
    clear h1 h2 hp hb2 hl hB hn1 hn2 H1 H2 hb
    go_enter Try.func30, Try.ntmps30
    go_wp2_with fail
    rw [← hw0]
    go_ret
    exact ⟨ret_bool HF.out.symm, HG0.out⟩
end Go.Proofs.Ytphbcfpiklmmeaa

namespace Go.Proofs.Ytphbcfpiklmmeaa
open Go Go.RowKit Go.Shelf

set_option maxRecDepth 100000 in
set_option maxHeartbeats 2000000 in
theorem dmeets_any (p : Par) (vm vl : Value) (m : List (List (List Int))) (x y : Int) (l : List (Int × Int)) (X Y : Nat → Prop) (w : World) (hp : p.ok) (h1 : Sl (encS (encS encU)) X w vm m) (hx : U64 x) (hy : U64 y) (h2 : Sl encP Y w vl l) (hb1 : m.length ≤ 100000) (hb2 : ∀ l ∈ m, l.length ≤ 100000 ∧ ∀ c ∈ l, c.length ≤ 100000) (hb : l.length ≤ 100000) :
    Calls Try.prog 12 #[p.v, vm, .int .u64 x, .int .u64 y, vl] w fun e w' => e = .returned (.bool (fitsI p (rowComsI p m x) y l)) ∧ w.grownBy w' none := by
  obtain ⟨Am, nm, cm, rfl⟩ := h1.shape
  obtain ⟨Al, nl, cl, rfl⟩ := h2.shape
  obtain ⟨w0, hw0⟩ : ∃ y, y = w.alloc (Obj.cells p.cells 24) := ⟨_, rfl⟩
  have HB0 : Hid (Bk w0 w.heap.size 24 p.cells) := Lib.hid (by rw [hw0]; exact Bk.new w _ _)
  have HG0 : Hid (w.grownBy w0 none) := Lib.hid (by rw [hw0]; exact World.grownBy_alloc w _ none)
  have HBP : Hid (Bk w0.drew w.heap.size 24 p.cells) := Lib.hid (HB0.out.drewN 1)
  have HGD : Hid (w.grownBy w0.drew none) := Lib.hid (HG0.out.trans (grown_drewN' w0 1))
  obtain ⟨cs, hcs⟩ : ∃ y, y = rowComsI p m x := ⟨_, rfl⟩
  have HCL : Hid (cs.length ≤ 100000) := Lib.hid (by rw [hcs]; simp [rowComsI]; exact hb1)
  have HRC : Hid (∀ W, w0.drew.grownBy W none → Calls Try.prog 31 #[p.v, .slice Am nm cm, .int .u64 x] W (Gives (encS encU) (fun g => W.heap.size ≤ g) W cs)) := Lib.hid (fun W hg => by
    rw [hcs]
    exact rowComs_any p _ m x X W (h1.kept (HGD.out.trans hg)) hx hb1 hb2)
  rw [← hcs]
  obtain ⟨b, hbe⟩ : ∃ b, b = fitsI p cs y l := ⟨_, rfl⟩
  have HFI : Hid (∀ v W, w0.drew.grownBy W none → Sl (encS encU) TT W v cs → Calls Try.prog 37 #[p.v, v, .int .u64 y, .slice Al nl cl] W fun e w' => e = .returned (.bool b) ∧ W.grownBy w' none) := Lib.hid (fun v W hg hs => by
    rw [hbe]
    exact fits_any p v cs y _ l TT Y W hp hs hy (h2.kept (HGD.out.trans hg)) HCL.out hb)
  rw [← hbe]
  clear h1 h2 hcs hp hb hb1 hb2 hbe HCL
  go_enter Try.func12, Try.ntmps12
  go_upto_region 1 with (fail)
  rw [← hw0]
  clear hw0
  refine wp_region_mono 9 (by kernel_rfl) (by kernel_rfl) ?_
  -- op 0 (slot 11): load
  refine MonoR.step (Pv.eq (p.v)) [] (by kernel_rfl) (fun w' hw' => ?_) ?_
  · refine ask_do rfl fun K hK => ?_
    have hp := (HBP.out.grown hw' (by simp)).prule
    go_simp
    exact hK _ _ rfl rfl (World.grownBy.refl _ none)
  -- op 1 (slot 12): load
  refine MonoR.step (Pv.eq (p.v)) [] (by kernel_rfl) (fun w' hw' => ?_) ?_
  · refine ask_do rfl fun K hK => ?_
    have hp := (HBP.out.grown hw' (by simp)).prule
    go_simp
    exact hK _ _ rfl rfl (World.grownBy.refl _ none)
  -- op 2 (slot 13): move
  refine MonoR.step (Pv.eq (.slice Am nm cm)) [] (by kernel_rfl) (fun w' hw' => ?_) ?_
  · refine ask_do rfl fun K hK => ?_
    go_simp
    exact hK _ _ rfl rfl (World.grownBy.refl _ none)
  -- op 3 (slot 14): move
  refine MonoR.step (Pv.eq (.int .u64 x)) [] (by kernel_rfl) (fun w' hw' => ?_) ?_
  · refine ask_do rfl fun K hK => ?_
    go_simp
    exact hK _ _ rfl rfl (World.grownBy.refl _ none)
  -- op 4 (slot 15): call
  refine MonoR.step (Pv.sl (encS encU) TT cs) [(1, 12), (2, 13), (3, 14)] (by kernel_rfl) (fun w' hw' => ?_) ?_
  · rintro _ rfl
    rintro _ rfl
    rintro _ rfl
    refine ask_do rfl fun K hK => ?_
    go_simp
    refine (HRC.out w' hw').mono ?_
    rintro e w3 ⟨v3, rfl, hs3, hg3⟩
    exact hK _ _ rfl (hs3.more fun _ _ _ => trivial) hg3
  -- op 5 (slot 16): move
  refine MonoR.step (Pv.eq (.int .u64 y)) [] (by kernel_rfl) (fun w' hw' => ?_) ?_
  · refine ask_do rfl fun K hK => ?_
    go_simp
    exact hK _ _ rfl rfl (World.grownBy.refl _ none)
  -- op 6 (slot 17): move
  refine MonoR.step (Pv.eq (.slice Al nl cl)) [] (by kernel_rfl) (fun w' hw' => ?_) ?_
  · refine ask_do rfl fun K hK => ?_
    go_simp
    exact hK _ _ rfl rfl (World.grownBy.refl _ none)
  -- op 7 (slot 18): call
  refine MonoR.step (Pv.eq (.bool b)) [(0, 11), (4, 15), (5, 16), (6, 17)] (by kernel_rfl) (fun w' hw' => ?_) ?_
  · rintro _ rfl
    intro x15 h15
    have h15 : Sl (encS encU) TT w' x15 cs := h15
    obtain ⟨A15, c15, e15, k15, l15⟩ := h15.form
    have e15 : x15 = .slice A15 cs.length c15 := e15
    subst e15
    rintro _ rfl
    rintro _ rfl
    refine ask_do rfl fun K hK => ?_
    go_simp
    refine (HFI.out _ w' hw' h15).mono ?_
    rintro e w3 ⟨rfl, hg3⟩
    exact hK _ _ rfl rfl hg3
  -- op 8 (slot 10): assign
  refine MonoR.step (Pv.eq (.bool b)) [(7, 18)] (by kernel_rfl) (fun w' hw' => ?_) ?_
  · rintro _ rfl
    refine ask_do rfl fun K hK => ?_
    go_simp
    exact hK _ _ rfl rfl (World.grownBy.refl _ none)
  

  intro w3 hw3
  intro y0 k0 y1 k1 y2 k2 y3 k3 y4 k4 y5 k5 y6 k6 y7 k7 y8 k8
  have e8 : y8 = .bool b := k8
  subst e8
  have HGF : Hid (w.grownBy w3 none) := Lib.hid (HGD.out.trans hw3)
  clear k0 k1 k2 k3 k4 k5 k6 k7 k8 hw3
  refine wpList_nil ?_
  simp only [Act.put, List.setIfInBounds_toArray, List.set_cons_zero, List.set_cons_succ]
  go_wp2
  go_ret
  exact ⟨rfl, HGF.out⟩
end Go.Proofs.Ytphbcfpiklmmeaa

namespace Go.Proofs.Ytphbcfpiklmmeaa
open Go Go.RowKit Go.Shelf

set_option maxRecDepth 100000 in
set_option maxHeartbeats 2000000 in
theorem rfits_any (p : Par) (v1 : Value) (coms : List (List Int)) (i : Int) (v2 : Value) (l : List (Int × Int)) (X Y : Nat → Prop) (w : World) (hp : p.ok) (h1 : Sl (encS encU) X w v1 coms) (hi : U64 i) (h2 : Sl encP Y w v2 l) (hb : coms.length ≤ 100000) (hb2 : l.length ≤ 100000) :
    Calls Try.prog 38 #[p.v, v1, .int .u64 i, v2] w fun e w' => e = .returned (.bool (fitsI p coms i l)) ∧ w.grownBy w' none := by
  have H2 := Lib.hid h2
  have HP := Lib.hid hp
  have HSH := Lib.hid (fun (W : World) (hW : w.grownBy W none) => rshare_any p v1 coms i X W hp (h1.kept hW) hi hb)
  obtain ⟨A1, c1, rfl, q1, q2⟩ := h1.form
  clear q1 q2
  obtain ⟨A2, c2, rfl, q1, q2⟩ := h2.form
  clear q1 q2
  obtain ⟨B, hB⟩ : ∃ B, B = fitsI p coms i l := ⟨_, rfl⟩
  have HBB := Lib.hid hB
  rw [← hB]
  obtain ⟨w0, hw0⟩ : ∃ y, y = w.alloc (Obj.cells p.cells 24) := ⟨_, rfl⟩
  have HB0 : Hid (Bk w0 w.heap.size 24 p.cells) := Lib.hid (by rw [hw0]; exact Bk.new w _ _)
  have HG0 : Hid (w.grownBy w0 none) := Lib.hid (by rw [hw0]; exact World.grownBy_alloc w _ none)
  by_cases hl : l.length = coms.length
  · have HLC := Lib.hid hl
    have HS0 := Lib.hid (HSH.out w0 HG0.out)
    rw [← hl] at HS0 ⊢
    obtain ⟨L, hL⟩ : ∃ y, y = l.length := ⟨_, rfl⟩
    have HL := Lib.hid hL
    rw [← hL] at H2 hb2 HS0 ⊢
    have HSL : Hid ((shareI p coms i).length = L) := Lib.hid (by rw [shareI_length, hL]; exact hl.symm)
    have HFB : Hid (B = decide (l.map (commitI p) = shareI p coms i)) := Lib.hid hB
    obtain ⟨S, hS⟩ : ∃ S, S = shareI p coms i := ⟨_, rfl⟩
    rw [← hS] at HS0 HSL HFB
    clear h1 h2 hp hL hl hB hS HSH hi hb HBB
    go_enter Try.func38, Try.ntmps38
    go_wp2_with fail
    rw [← hw0]
    have hp0 := HB0.out.prule
    clear hw0
    go_wp2_with fail
    refine HS0.out.mono ?_
    rintro e w1 ⟨v9, rfl, hs9, hg1⟩
    obtain ⟨A9, c9, e9, q1, q2⟩ := hs9.form
    clear q1 q2
    rw [HSL.out] at e9
    subst e9
    have HS9 := Lib.hid hs9
    have HG1 : Hid (w.grownBy w1 none) := Lib.hid (HG0.out.trans hg1)
    have HB1 : Hid (Bk w1 w.heap.size 24 p.cells) := Lib.hid (HB0.out.grown hg1 (by simp))
    clear hs9 hg1 hp0 HS0
    go_wp2_with fail
    go_loopg [10] L (fun gk s10 wx => ∃ j : Nat, j + gk = L ∧ s10 = .int .i64 j ∧ Hid (w1.grownBy wx none ∧ (l.map (commitI p)).take j = S.take j))
    case atStart => exact ⟨0, by omega, rfl, Lib.hid ⟨World.grownBy.refl _ _, rfl⟩⟩
    case round =>
      obtain ⟨j, hj, rfl, HX⟩ := hrel
      cases gk with
      | zero =>
        have eI : L = j := by omega
        subst eI
        have hno : ¬ ((L : Int) < (L : Int)) := by omega
        have HGF : Hid (w.grownBy wr none) := Lib.hid (HG1.out.trans HX.out.1)
        have HT : Hid (B = true) := Lib.hid (by
          rw [HFB.out]
          exact decide_eq_true (take_all (by rw [List.length_map]; exact HL.out.symm) HSL.out HX.out.2))
        clear HX
        go_wp2
        go_ret
        exact ⟨ret_bool HT.out.symm, HGF.out⟩
      | succ m =>
        have hjI : (j : Int) < (L : Int) := by omega
        have hj0 : (0 : Int) ≤ (j : Int) := Int.natCast_nonneg j
        have hjl : j < l.length := by rw [← HL.out]; omega
        have hjS : j < S.length := by rw [HSL.out]; omega
        obtain ⟨ga, oa, ca, ea, q1, q2, hc0, hc1, hu1, hu2⟩ := (H2.out.kept (HG1.out.trans HX.out.1)).atP hjl
        clear q1 q2
        injection ea with ea1 ea2 ea3
        clear ea2
        subst ea1 ea3
        obtain ⟨gb, ob, cb, eb, q1, q2, hcb, hub⟩ := (HS9.out.kept HX.out.1).atU hjS
        clear q1 q2
        injection eb with eb1 eb2 eb3
        clear eb2
        subst eb1 eb3
        have HSTJ : Hid (commitI p l[j] = S[j] → (l.map (commitI p)).take (j + 1) = S.take (j + 1)) := Lib.hid (fun h => take_step (by rw [List.length_map]; exact hjl) hjS HX.out.2 (by rw [List.getElem_map]; exact h))
        have HNOJ : Hid (commitI p l[j] ≠ S[j] → B = false) := Lib.hid (fun h => by
          rw [HFB.out]
          exact decide_eq_false fun e => h (by
            have h1 : (l.map (commitI p))[j]? = S[j]? := by rw [e]
            rw [List.getElem?_eq_getElem (by rw [List.length_map]; exact hjl), List.getElem?_eq_getElem hjS, List.getElem_map] at h1
            exact Option.some.inj h1))
        obtain ⟨x, hx⟩ : ∃ x, x = l[j] := ⟨_, rfl⟩
        obtain ⟨s, hs⟩ : ∃ s, s = S[j] := ⟨_, rfl⟩
        rw [← hx] at hc0 hc1 hu1 hu2 HSTJ HNOJ
        rw [← hs] at hcb HSTJ HNOJ
        obtain ⟨x1, x2⟩ := x
        simp only at hc0 hc1 hu1 hu2
        obtain ⟨c, hc⟩ : ∃ c, c = commitI p (x1, x2) := ⟨_, rfl⟩
        rw [← hc] at HSTJ HNOJ
        have HGW : Hid (w1.grownBy wr.drew none) := Lib.hid (HX.out.1.trans (grown_drewN' wr 1))
        have HL7 : Hid (∀ W, wr.drew.grownBy W none → (∀ o, W.cell? ⟨w.heap.size, o, none⟩ = (#[.int .u64 p.P, .int .u64 p.Q, .int .u64 p.G, .int .u64 p.H, .int .i64 p.Nodes, .int .i64 p.N, .int .i64 p.T, .int .i64 p.K, .int .i64 p.D, .int .i64 p.R, .int .i64 p.M, .int .i64 p.X] : Array Value)[o]?) ∧ W.cell? ⟨ga, oa + j * 2, none⟩ = some (.int .u64 x1) ∧ W.cell? ⟨ga, oa + j * 2 + 1, none⟩ = some (.int .u64 x2) ∧ W.cell? ⟨gb, ob + j, none⟩ = some (.int .u64 s)) := Lib.hid (fun W hW => ⟨(HB1.out.grown (HGW.out.trans hW) (by simp)).prule, cellK hc0 ((grown_drewN' wr 1).trans hW) (by simp), cellK hc1 ((grown_drewN' wr 1).trans hW) (by simp), cellK hcb ((grown_drewN' wr 1).trans hW) (by simp)⟩)
        have HCM : Hid (∀ W, Calls Try.prog 51 #[p.v, .agg #[.int .u64 x1, .int .u64 x2]] W fun e' w' => e' = .returned (.int .u64 c) ∧ W.grownBy w' none) := Lib.hid (fun W => by rw [hc]; exact rcommit_any p (x1, x2) W HP.out hu1 hu2)
        clear hcb hub hx hs hu1 hu2 HX hjl hjS hc hc0 hc1
        go_upto_region 7 with (fail)
        refine wp_region_mono 11 (by kernel_rfl) (by kernel_rfl) ?_
        -- op 0 (slot 26): load
        refine MonoR.step (Pv.eq (p.v)) [] (by kernel_rfl) (fun w' hw' => ?_) ?_
        · refine ask_do rfl fun K hK => ?_
          obtain ⟨q0, q1, q2, q3⟩ := HL7.out w' hw'
          go_simp
          exact hK _ _ rfl rfl (World.grownBy.refl _ none)
        -- op 1 (slot 27): move
        refine MonoR.step (Pv.eq (.slice (some ⟨ga, oa, none⟩) L c2)) [] (by kernel_rfl) (fun w' hw' => ?_) ?_
        · refine ask_do rfl fun K hK => ?_
          go_simp
          exact hK _ _ rfl rfl (World.grownBy.refl _ none)
        -- op 2 (slot 28): move
        refine MonoR.step (Pv.eq (.int .i64 (j : Int))) [] (by kernel_rfl) (fun w' hw' => ?_) ?_
        · refine ask_do rfl fun K hK => ?_
          go_simp
          exact hK _ _ rfl rfl (World.grownBy.refl _ none)
        -- op 3 (slot 29): indexAddr
        refine MonoR.step (Pv.eq (.pointer (some ⟨ga, oa + j * 2, none⟩))) [(1, 27), (2, 28)] (by kernel_rfl) (fun w' hw' => ?_) ?_
        · intro x27 h27
          intro x28 h28
          have e27 : x27 = .slice (some ⟨ga, oa, none⟩) L c2 := h27
          clear h27
          subst e27
          have e28 : x28 = .int .i64 (j : Int) := h28
          clear h28
          subst e28
          refine ask_do rfl fun K hK => ?_
          go_simp
          exact hK _ _ rfl rfl (World.grownBy.refl _ none)
        -- op 4 (slot 30): load
        refine MonoR.step (Pv.eq (.agg #[.int .u64 x1, .int .u64 x2])) [(3, 29)] (by kernel_rfl) (fun w' hw' => ?_) ?_
        · intro x29 h29
          have e29 : x29 = .pointer (some ⟨ga, oa + j * 2, none⟩) := h29
          clear h29
          subst e29
          refine ask_do rfl fun K hK => ?_
          obtain ⟨q0, q1, q2, q3⟩ := HL7.out w' hw'
          go_simp
          exact hK _ _ rfl rfl (World.grownBy.refl _ none)
        -- op 5 (slot 31): call
        refine MonoR.step (Pv.eq (.int .u64 c)) [(0, 26), (4, 30)] (by kernel_rfl) (fun w' hw' => ?_) ?_
        · intro x26 h26
          intro x30 h30
          have e26 : x26 = p.v := h26
          clear h26
          subst e26
          have e30 : x30 = .agg #[.int .u64 x1, .int .u64 x2] := h30
          clear h30
          subst e30
          refine ask_do rfl fun K hK => ?_
          go_simp
          refine (HCM.out w').mono ?_
          rintro e w3 ⟨rfl, hg⟩
          exact hK _ _ rfl rfl hg
        -- op 6 (slot 32): move
        refine MonoR.step (Pv.eq (.slice (some ⟨gb, ob, none⟩) L c9)) [] (by kernel_rfl) (fun w' hw' => ?_) ?_
        · refine ask_do rfl fun K hK => ?_
          go_simp
          exact hK _ _ rfl rfl (World.grownBy.refl _ none)
        -- op 7 (slot 33): move
        refine MonoR.step (Pv.eq (.int .i64 (j : Int))) [] (by kernel_rfl) (fun w' hw' => ?_) ?_
        · refine ask_do rfl fun K hK => ?_
          go_simp
          exact hK _ _ rfl rfl (World.grownBy.refl _ none)
        -- op 8 (slot 34): indexAddr
        refine MonoR.step (Pv.eq (.pointer (some ⟨gb, ob + j, none⟩))) [(6, 32), (7, 33)] (by kernel_rfl) (fun w' hw' => ?_) ?_
        · intro x32 h32
          intro x33 h33
          have e32 : x32 = .slice (some ⟨gb, ob, none⟩) L c9 := h32
          clear h32
          subst e32
          have e33 : x33 = .int .i64 (j : Int) := h33
          clear h33
          subst e33
          refine ask_do rfl fun K hK => ?_
          go_simp
          exact hK _ _ rfl rfl (World.grownBy.refl _ none)
        -- op 9 (slot 35): load
        refine MonoR.step (Pv.eq (.int .u64 s)) [(8, 34)] (by kernel_rfl) (fun w' hw' => ?_) ?_
        · intro x34 h34
          have e34 : x34 = .pointer (some ⟨gb, ob + j, none⟩) := h34
          clear h34
          subst e34
          refine ask_do rfl fun K hK => ?_
          obtain ⟨q0, q1, q2, q3⟩ := HL7.out w' hw'
          go_simp
          exact hK _ _ rfl rfl (World.grownBy.refl _ none)
        -- op 10 (slot 36): binOp
        refine MonoR.step (Pv.eq (.bool (c != s))) [(5, 31), (9, 35)] (by kernel_rfl) (fun w' hw' => ?_) ?_
        · intro x31 h31
          intro x35 h35
          have e31 : x31 = .int .u64 c := h31
          clear h31
          subst e31
          have e35 : x35 = .int .u64 s := h35
          clear h35
          subst e35
          refine ask_do rfl fun K hK => ?_
          go_simp
          exact hK _ _ rfl rfl (World.grownBy.refl _ none)
        
        intro w5 hw5
        intro y0 k0 y1 k1 y2 k2 y3 k3 y4 k4 y5 k5 y6 k6 y7 k7 y8 k8 y9 k9 y10 k10
        have e10 : y10 = .bool (c != s) := k10
        subst e10
        have HG5 : Hid (w1.grownBy w5 none) := Lib.hid (HGW.out.trans hw5)
        clear k0 k1 k2 k3 k4 k5 k6 k7 k8 k9 k10 hw5 HL7 HCM HGW
        refine wpList_nil ?_
        simp only [Act.put, List.setIfInBounds_toArray, List.set_cons_zero, List.set_cons_succ]
        by_cases hcs : c = s
        · have hnc : (c != s) = false := by simpa using hcs
          have HFIN : Hid (w1.grownBy w5 none ∧ (l.map (commitI p)).take (j + 1) = S.take (j + 1)) := Lib.hid ⟨HG5.out, HSTJ.out hcs⟩
          clear hcs
          go_wp2_with fail
          go_roundg m
          case measure => omega
          case rel => exact ⟨j + 1, by omega, by go_num, HFIN⟩
        · have hnc : (c != s) = true := by simpa using hcs
          have HF := Lib.hid (HNOJ.out hcs)
          have HGF : Hid (w.grownBy w5 none) := Lib.hid (HG1.out.trans HG5.out)
          clear hcs
          go_wp2_with fail
          go_ret
          exact ⟨ret_bool HF.out.symm, HGF.out⟩
  · have hne : ((l.length : Int) != (coms.length : Int)) = true := by simpa using (by omega : ¬ (l.length : Int) = (coms.length : Int))
    have HF : Hid (B = false) := Lib.hid (by
      rw [HBB.out]
      exact decide_eq_false fun h => hl (by
        have := congrArg List.length h
        rwa [List.length_map, shareI_length] at this))
    obtain ⟨n1, hn1⟩ : ∃ n, n = l.length := ⟨_, rfl⟩
    obtain ⟨n2, hn2⟩ : ∃ n, n = coms.length := ⟨_, rfl⟩
    rw [← hn1, ← hn2] at hne ⊢
    clear h1 h2 hp hb2 hl hB hn1 hn2 H2 hb HSH
    go_enter Try.func38, Try.ntmps38
    go_wp2_with fail
    rw [← hw0]
    go_ret
    exact ⟨ret_bool HF.out.symm, HG0.out⟩
set_option maxHeartbeats 1000000 in
theorem listsB_any (v1 v2 : Value) (xs ys : List (List Int)) (X Y : Nat → Prop) (w : World) (h1 : Sl (encS encU) X w v1 xs) (h2 : Sl (encS encU) Y w v2 ys) :
    Calls Try.prog 32 #[v1, v2] w (Quietly w (.bool (decide (xs = ys)))) := by
  obtain ⟨B, hB⟩ : ∃ B, B = decide (xs = ys) := ⟨_, rfl⟩
  have HBB := Lib.hid hB
  rw [← hB]
  by_cases hl : xs.length = ys.length
  · have H1 := Lib.hid h1
    have H2 := Lib.hid h2
    obtain ⟨A1, c1, rfl, hc1, hc2⟩ := h1.form
    obtain ⟨A2, c2, rfl, q1, q2⟩ := h2.form
    have HLL := Lib.hid hl
    rw [← hl]
    have HST : Hid ((∃ n, w = w.drewN n) ∧ xs.take 0 = ys.take 0) := Lib.hid ⟨⟨0, rfl⟩, rfl⟩
    clear h1 h2 q1 q2 hB hl
    go_enter Try.func32, Try.ntmps32
    go_wp2_with fail
    go_loopg [5] xs.length (fun g s5 wx => ∃ j : Nat, j + g = xs.length ∧ s5 = .int .i64 j ∧ Hid ((∃ n, wx = w.drewN n) ∧ xs.take j = ys.take j))
    case atStart => exact ⟨0, by omega, rfl, HST⟩
    case round =>
      obtain ⟨j, hj, rfl, HX⟩ := hrel
      obtain ⟨n0, rfl⟩ := HX.out.1
      cases gk with
      | zero =>
        obtain rfl : j = xs.length := by omega
        have HT : Hid (B = true) := Lib.hid (by
          rw [HBB.out]
          exact decide_eq_true (take_all rfl HLL.out.symm HX.out.2))
        clear HX HST
        go_wp2
        go_ret
        exact ⟨ret_bool HT.out.symm, _, rfl⟩
      | succ m =>
        have hjn : (j : Int) < (xs.length : Int) := by omega
        have hj0 : (0 : Int) ≤ (j : Int) := Int.natCast_nonneg j
        have hjN : j < xs.length := by omega
        have hjM : j < ys.length := by rw [← HLL.out]; exact hjN
        obtain ⟨g1, o1, c1', t1, e1, q1, q2, a1, k1⟩ := H1.out.atS hjN
        injection e1 with e11 e12 e13
        subst e11 e13
        obtain ⟨g2, o2, c2', t2, e2, q3, q4, a2, k2⟩ := H2.out.atS hjM
        injection e2 with e21 e22 e23
        subst e21 e23
        have HN := Lib.hid (fun k => numsB_any t1 t2 xs[j] ys[j] X Y (w.drewN k) (k1.kept (grownBy_drewN (World.grownBy.refl w none) k)) (k2.kept (grownBy_drewN (World.grownBy.refl w none) k)))
        obtain ⟨B1, m1, d1, rfl⟩ := k1.shape
        obtain ⟨B2, m2, d2, rfl⟩ := k2.shape
        by_cases hxy : xs[j] = ys[j]
        · have HREL : Hid (xs.take (j + 1) = ys.take (j + 1)) := Lib.hid (take_step hjN hjM HX.out.2 hxy)
          rw [decide_eq_true hxy] at HN
          clear HX HST e12 e22 hxy k1 k2 q1 q2 q3 q4
          go_wp2_with fail
          go_quiet ((go_at_call 14; exact quiet_add (HN.out _)))
          go_wp2_with fail
          go_roundg m
          case measure => omega
          case rel => exact ⟨j + 1, by omega, by go_num, Lib.hid ⟨⟨_, rfl⟩, HREL.out⟩⟩
        · have HF : Hid (B = false) := Lib.hid (by
            rw [HBB.out]
            exact decide_eq_false fun h => hxy (by simp [h]))
          rw [decide_eq_false hxy] at HN
          clear HX HST e12 e22 k1 k2 q1 q2 q3 q4 hxy
          go_wp2_with fail
          go_quiet ((go_at_call 14; exact quiet_add (HN.out _)))
          go_wp2_with fail
          go_ret
          exact ⟨ret_bool HF.out.symm, drew_two _ _ _⟩
  · obtain ⟨A1, c1, rfl, q1, q2⟩ := h1.form
    obtain ⟨A2, c2, rfl, q3, q4⟩ := h2.form
    have hne : ((xs.length : Int) != (ys.length : Int)) = true := by simpa using (by omega : ¬ (xs.length : Int) = (ys.length : Int))
    have HF : Hid (B = false) := Lib.hid (by
      rw [HBB.out]
      exact decide_eq_false fun h => hl (by rw [h]))
    obtain ⟨n1, hn1⟩ : ∃ n, n = xs.length := ⟨_, rfl⟩
    obtain ⟨n2, hn2⟩ : ∃ n, n = ys.length := ⟨_, rfl⟩
    rw [← hn1, ← hn2] at hne ⊢
    clear h1 h2 hl hB hn1 hn2 q1 q2 q3 q4
    go_enter Try.func32, Try.ntmps32
    go_wp2
    go_ret
    exact ⟨ret_bool HF.out.symm, 0, rfl⟩
set_option maxHeartbeats 1000000 in
theorem drowFits_any (p : Par) (vm vl : Value) (m : List (List (List Int))) (x : Int) (l : List (List (Int × Int))) (X Y : Nat → Prop) (w : World) (hp : p.ok) (h1 : Sl (encS (encS encU)) X w vm m) (hx : U64 x) (h2 : Sl (encS encP) Y w vl l) (hb1 : m.length ≤ 100000) (hb2 : ∀ l ∈ m, l.length ≤ 100000 ∧ ∀ c ∈ l, c.length ≤ 100000) (hb : l.length ≤ 1000) (hb3 : ∀ c ∈ l, c.length ≤ 1000) :
    Calls Try.prog 8 #[p.v, vm, .int .u64 x, vl] w fun e w' => e = .returned (.bool (dfitsB p l (rowComsI p m x))) ∧ w.grownBy w' none := by
  obtain ⟨Am, nm, cm, rfl⟩ := h1.shape
  obtain ⟨Al, nl, cl, rfl⟩ := h2.shape
  obtain ⟨w0, hw0⟩ : ∃ y, y = w.alloc (Obj.cells p.cells 24) := ⟨_, rfl⟩
  have HB0 : Hid (Bk w0 w.heap.size 24 p.cells) := Lib.hid (by rw [hw0]; exact Bk.new w _ _)
  have HG0 : Hid (w.grownBy w0 none) := Lib.hid (by rw [hw0]; exact World.grownBy_alloc w _ none)
  have HGd : Hid (w.grownBy w0.drew none) := Lib.hid (HG0.out.trans (grown_drewN' w0 1))
  have HPR : Hid (∀ W, w0.drew.grownBy W none → ∀ o, W.cell? ⟨w.heap.size, o, none⟩ = (#[.int .u64 p.P, .int .u64 p.Q, .int .u64 p.G, .int .u64 p.H, .int .i64 p.Nodes, .int .i64 p.N, .int .i64 p.T, .int .i64 p.K, .int .i64 p.D, .int .i64 p.R, .int .i64 p.M, .int .i64 p.X] : Array Value)[o]?) := Lib.hid (fun W hW => (HB0.out.grown ((grown_drewN' w0 1).trans hW) (by simp)).prule)
  have HRC : Hid (∀ W, w0.drew.grownBy W none → Calls Try.prog 31 #[p.v, .slice Am nm cm, .int .u64 x] W (Gives (encS encU) (fun g => W.heap.size ≤ g) W (rowComsI p m x))) := Lib.hid (fun W hW => rowComs_any p _ m x X W (h1.kept (HGd.out.trans hW)) hx hb1 hb2)
  have HFT : Hid (∀ W v, w0.drew.grownBy W none → Sl (encS encU) TT W v (rowComsI p m x) → Calls Try.prog 30 #[p.v, .slice Al nl cl, v] W fun e w' => e = .returned (.bool (dfitsB p l (rowComsI p m x))) ∧ W.grownBy w' none) := Lib.hid (fun W v hW hv => dfits_any p _ v l _ Y TT W hp (h2.kept (HGd.out.trans hW)) hv hb hb3)
  obtain ⟨R, hR⟩ : ∃ R, R = rowComsI p m x := ⟨_, rfl⟩
  rw [← hR] at HRC HFT ⊢
  obtain ⟨B, hB⟩ : ∃ B, B = dfitsB p l R := ⟨_, rfl⟩
  rw [← hB] at HFT ⊢
  clear h1 h2 hp hx hb1 hb2 hb hb3 hR hB
  go_enter Try.func8, Try.ntmps8
  go_upto_region 1 with (fail)
  rw [← hw0]
  clear hw0
  refine wp_region_mono 7 (by kernel_rfl) (by kernel_rfl) ?_
  -- op 0 (slot 9): load
  refine MonoR.step (Pv.eq (p.v)) [] (by kernel_rfl) (fun w' hw' => ?_) ?_
  · refine ask_do rfl fun K hK => ?_
    have hp := HPR.out w' hw'
    go_simp
    exact hK _ _ rfl rfl (World.grownBy.refl _ none)
  -- op 1 (slot 10): move
  refine MonoR.step (Pv.eq (.slice Al nl cl)) [] (by kernel_rfl) (fun w' hw' => ?_) ?_
  · refine ask_do rfl fun K hK => ?_
    go_simp
    exact hK _ _ rfl rfl (World.grownBy.refl _ none)
  -- op 2 (slot 11): load
  refine MonoR.step (Pv.eq (p.v)) [] (by kernel_rfl) (fun w' hw' => ?_) ?_
  · refine ask_do rfl fun K hK => ?_
    have hp := HPR.out w' hw'
    go_simp
    exact hK _ _ rfl rfl (World.grownBy.refl _ none)
  -- op 3 (slot 12): move
  refine MonoR.step (Pv.eq (.slice Am nm cm)) [] (by kernel_rfl) (fun w' hw' => ?_) ?_
  · refine ask_do rfl fun K hK => ?_
    go_simp
    exact hK _ _ rfl rfl (World.grownBy.refl _ none)
  -- op 4 (slot 13): move
  refine MonoR.step (Pv.eq (.int .u64 x)) [] (by kernel_rfl) (fun w' hw' => ?_) ?_
  · refine ask_do rfl fun K hK => ?_
    go_simp
    exact hK _ _ rfl rfl (World.grownBy.refl _ none)
  -- op 5 (slot 14): call
  refine MonoR.step (Pv.sl (encS encU) TT R) [(2, 11), (3, 12), (4, 13)] (by kernel_rfl) (fun w' hw' => ?_) ?_
  · intro x11 h11
    intro x12 h12
    intro x13 h13
    have e11 : x11 = p.v := h11
    clear h11
    subst e11
    have e12 : x12 = .slice Am nm cm := h12
    clear h12
    subst e12
    have e13 : x13 = .int .u64 x := h13
    clear h13
    subst e13
    refine ask_do rfl fun K hK => ?_
    go_simp
    refine (HRC.out w' hw').mono ?_
    rintro e w3 ⟨v3, rfl, h3, hg⟩
    exact hK _ _ rfl (h3.more (fun _ _ _ => trivial)) hg
  -- op 6 (slot 15): call
  refine MonoR.step (Pv.eq (.bool B)) [(0, 9), (1, 10), (5, 14)] (by kernel_rfl) (fun w' hw' => ?_) ?_
  · intro x9 h9
    intro x10 h10
    intro x14 h14
    have h14 : Sl (encS encU) TT w' x14 R := h14
    obtain ⟨A14, c14, e14, k14, l14⟩ := h14.form
    have e14 : x14 = .slice A14 R.length c14 := e14
    subst e14
    have e9 : x9 = p.v := h9
    clear h9
    subst e9
    have e10 : x10 = .slice Al nl cl := h10
    clear h10
    subst e10
    refine ask_do rfl fun K hK => ?_
    go_simp
    refine (HFT.out w' _ hw' h14).mono ?_
    rintro e w3 ⟨rfl, hg⟩
    exact hK _ _ rfl rfl hg
  
  intro w5 hw5
  intro y0 k0 y1 k1 y2 k2 y3 k3 y4 k4 y5 k5 y6 k6
  have e6 : y6 = .bool B := k6
  subst e6
  have HGF : Hid (w.grownBy w5 none) := Lib.hid (HGd.out.trans hw5)
  clear k0 k1 k2 k3 k4 k5 k6 hw5 HRC HFT HPR
  show wpList Try.prog _ _ _ _ w5
  simp only [Act.put, List.setIfInBounds_toArray, List.set_cons_zero, List.set_cons_succ]
  go_wp2_with fail
  go_ret
  exact ⟨rfl, HGF.out⟩
set_option maxHeartbeats 1000000 in
theorem rrowFits_any (p : Par) (vm vl : Value) (m : List (List (List Int))) (x : Int) (l : List (List (Int × Int))) (X Y : Nat → Prop) (w : World) (hp : p.ok) (h1 : Sl (encS (encS encU)) X w vm m) (hx : U64 x) (h2 : Sl (encS encP) Y w vl l) (hb1 : m.length ≤ 100000) (hb2 : ∀ l ∈ m, l.length ≤ 100000 ∧ ∀ c ∈ l, c.length ≤ 100000) (hb : l.length ≤ 1000) (hb3 : ∀ c ∈ l, c.length ≤ 1000) :
    Calls Try.prog 9 #[p.v, vm, .int .u64 x, vl] w fun e w' => e = .returned (.bool (dfitsB p l (rowComsI p m x))) ∧ w.grownBy w' none := by
  obtain ⟨Am, nm, cm, rfl⟩ := h1.shape
  obtain ⟨Al, nl, cl, rfl⟩ := h2.shape
  obtain ⟨w0, hw0⟩ : ∃ y, y = w.alloc (Obj.cells p.cells 24) := ⟨_, rfl⟩
  have HB0 : Hid (Bk w0 w.heap.size 24 p.cells) := Lib.hid (by rw [hw0]; exact Bk.new w _ _)
  have HG0 : Hid (w.grownBy w0 none) := Lib.hid (by rw [hw0]; exact World.grownBy_alloc w _ none)
  have HGd : Hid (w.grownBy w0.drew none) := Lib.hid (HG0.out.trans (grown_drewN' w0 1))
  have HPR : Hid (∀ W, w0.drew.grownBy W none → ∀ o, W.cell? ⟨w.heap.size, o, none⟩ = (#[.int .u64 p.P, .int .u64 p.Q, .int .u64 p.G, .int .u64 p.H, .int .i64 p.Nodes, .int .i64 p.N, .int .i64 p.T, .int .i64 p.K, .int .i64 p.D, .int .i64 p.R, .int .i64 p.M, .int .i64 p.X] : Array Value)[o]?) := Lib.hid (fun W hW => (HB0.out.grown ((grown_drewN' w0 1).trans hW) (by simp)).prule)
  have HRC : Hid (∀ W, w0.drew.grownBy W none → Calls Try.prog 34 #[p.v, .slice Am nm cm, .int .u64 x] W (Gives (encS encU) (fun g => W.heap.size ≤ g) W (rowComsI p m x))) := Lib.hid (fun W hW => rrowComs_any p _ m x X W hp (h1.kept (HGd.out.trans hW)) hx hb1 hb2)
  have HCD : Hid (∀ W, w0.drew.grownBy W none → Calls Try.prog 33 #[p.v, .slice Al nl cl] W (Gives (encS encU) (fun g => W.heap.size ≤ g) W (l.map fun c => c.map (commitI p)))) := Lib.hid (fun W hW => rcommitted_any p _ l Y W hp (h2.kept (HGd.out.trans hW)) (by omega) (fun c hc => by have := hb3 c hc; omega))
  obtain ⟨B, hB⟩ : ∃ B, B = dfitsB p l (rowComsI p m x) := ⟨_, rfl⟩
  have HBB : Hid (B = decide ((l.map fun c => c.map (commitI p)) = rowComsI p m x)) := Lib.hid hB
  rw [← hB]
  obtain ⟨R, hR⟩ : ∃ R, R = rowComsI p m x := ⟨_, rfl⟩
  obtain ⟨S, hS⟩ : ∃ S, S = l.map fun c => c.map (commitI p) := ⟨_, rfl⟩
  rw [← hR] at HRC HBB
  rw [← hS] at HCD HBB
  have HLS : Hid (∀ W v u, Sl (encS encU) TT W v S → Sl (encS encU) TT W u R → Calls Try.prog 32 #[v, u] W (Quietly W (.bool B))) := Lib.hid (fun W v u hv hu => by rw [HBB.out]; exact listsB_any v u S R TT TT W hv hu)
  clear h1 h2 hp hx hb1 hb2 hb hb3 hR hB hS
  go_enter Try.func9, Try.ntmps9
  go_upto_region 1 with (fail)
  rw [← hw0]
  clear hw0
  refine wp_region_mono 8 (by kernel_rfl) (by kernel_rfl) ?_
  -- op 0 (slot 9): load
  refine MonoR.step (Pv.eq (p.v)) [] (by kernel_rfl) (fun w' hw' => ?_) ?_
  · refine ask_do rfl fun K hK => ?_
    have hp := HPR.out w' hw'
    go_simp
    exact hK _ _ rfl rfl (World.grownBy.refl _ none)
  -- op 1 (slot 10): move
  refine MonoR.step (Pv.eq (.slice Al nl cl)) [] (by kernel_rfl) (fun w' hw' => ?_) ?_
  · refine ask_do rfl fun K hK => ?_
    go_simp
    exact hK _ _ rfl rfl (World.grownBy.refl _ none)
  -- op 2 (slot 11): call
  refine MonoR.step (Pv.sl (encS encU) TT S) [(0, 9), (1, 10)] (by kernel_rfl) (fun w' hw' => ?_) ?_
  · intro x9 h9
    intro x10 h10
    have e9 : x9 = p.v := h9
    clear h9
    subst e9
    have e10 : x10 = .slice Al nl cl := h10
    clear h10
    subst e10
    refine ask_do rfl fun K hK => ?_
    go_simp
    refine (HCD.out w' hw').mono ?_
    rintro e w3 ⟨v3, rfl, h3, hg⟩
    exact hK _ _ rfl (h3.more (fun _ _ _ => trivial)) hg
  -- op 3 (slot 12): load
  refine MonoR.step (Pv.eq (p.v)) [] (by kernel_rfl) (fun w' hw' => ?_) ?_
  · refine ask_do rfl fun K hK => ?_
    have hp := HPR.out w' hw'
    go_simp
    exact hK _ _ rfl rfl (World.grownBy.refl _ none)
  -- op 4 (slot 13): move
  refine MonoR.step (Pv.eq (.slice Am nm cm)) [] (by kernel_rfl) (fun w' hw' => ?_) ?_
  · refine ask_do rfl fun K hK => ?_
    go_simp
    exact hK _ _ rfl rfl (World.grownBy.refl _ none)
  -- op 5 (slot 14): move
  refine MonoR.step (Pv.eq (.int .u64 x)) [] (by kernel_rfl) (fun w' hw' => ?_) ?_
  · refine ask_do rfl fun K hK => ?_
    go_simp
    exact hK _ _ rfl rfl (World.grownBy.refl _ none)
  -- op 6 (slot 15): call
  refine MonoR.step (Pv.sl (encS encU) TT R) [(3, 12), (4, 13), (5, 14)] (by kernel_rfl) (fun w' hw' => ?_) ?_
  · intro x12 h12
    intro x13 h13
    intro x14 h14
    have e12 : x12 = p.v := h12
    clear h12
    subst e12
    have e13 : x13 = .slice Am nm cm := h13
    clear h13
    subst e13
    have e14 : x14 = .int .u64 x := h14
    clear h14
    subst e14
    refine ask_do rfl fun K hK => ?_
    go_simp
    refine (HRC.out w' hw').mono ?_
    rintro e w3 ⟨v3, rfl, h3, hg⟩
    exact hK _ _ rfl (h3.more (fun _ _ _ => trivial)) hg
  -- op 7 (slot 16): call
  refine MonoR.step (Pv.eq (.bool B)) [(2, 11), (6, 15)] (by kernel_rfl) (fun w' hw' => ?_) ?_
  · intro x11 h11
    have h11 : Sl (encS encU) TT w' x11 S := h11
    obtain ⟨A11, c11, e11, k11, l11⟩ := h11.form
    have e11 : x11 = .slice A11 S.length c11 := e11
    subst e11
    intro x15 h15
    have h15 : Sl (encS encU) TT w' x15 R := h15
    obtain ⟨A15, c15, e15, k15, l15⟩ := h15.form
    have e15 : x15 = .slice A15 R.length c15 := e15
    subst e15
    refine ask_do rfl fun K hK => ?_
    go_simp
    refine (HLS.out w' _ _ h11 h15).mono ?_
    rintro e w3 ⟨rfl, n3, rfl⟩
    exact hK _ _ rfl rfl (grown_drewN' w' n3)
  
  intro w5 hw5
  intro y0 k0 y1 k1 y2 k2 y3 k3 y4 k4 y5 k5 y6 k6 y7 k7
  have e7 : y7 = .bool B := k7
  subst e7
  have HGF : Hid (w.grownBy w5 none) := Lib.hid (HGd.out.trans hw5)
  clear k0 k1 k2 k3 k4 k5 k6 k7 hw5 HRC HCD HLS HPR
  show wpList Try.prog _ _ _ _ w5
  simp only [Act.put, List.setIfInBounds_toArray, List.set_cons_zero, List.set_cons_succ]
  go_wp2_with fail
  go_ret
  exact ⟨rfl, HGF.out⟩
set_option maxHeartbeats 1000000 in
theorem dcolFits_any (p : Par) (vm vl : Value) (m : List (List (List Int))) (x : Int) (l : List (List (Int × Int))) (X Y : Nat → Prop) (w : World) (hp : p.ok) (h1 : Sl (encS (encS encU)) X w vm m) (hx : U64 x) (h2 : Sl (encS encP) Y w vl l) (hb1 : m.length ≤ 100000) (hb2 : ∀ l ∈ m, l.length ≤ 100000 ∧ ∀ c ∈ l, c.length ≤ 100000) (hb : l.length ≤ 1000) (hb3 : ∀ c ∈ l, c.length ≤ 1000) :
    Calls Try.prog 10 #[p.v, vm, .int .u64 x, vl] w fun e w' => e = .returned (.bool (dfitsB p l (colComsI p m x))) ∧ w.grownBy w' none := by
  obtain ⟨Am, nm, cm, rfl⟩ := h1.shape
  obtain ⟨Al, nl, cl, rfl⟩ := h2.shape
  obtain ⟨w0, hw0⟩ : ∃ y, y = w.alloc (Obj.cells p.cells 24) := ⟨_, rfl⟩
  have HB0 : Hid (Bk w0 w.heap.size 24 p.cells) := Lib.hid (by rw [hw0]; exact Bk.new w _ _)
  have HG0 : Hid (w.grownBy w0 none) := Lib.hid (by rw [hw0]; exact World.grownBy_alloc w _ none)
  have HGd : Hid (w.grownBy w0.drew none) := Lib.hid (HG0.out.trans (grown_drewN' w0 1))
  have HPR : Hid (∀ W, w0.drew.grownBy W none → ∀ o, W.cell? ⟨w.heap.size, o, none⟩ = (#[.int .u64 p.P, .int .u64 p.Q, .int .u64 p.G, .int .u64 p.H, .int .i64 p.Nodes, .int .i64 p.N, .int .i64 p.T, .int .i64 p.K, .int .i64 p.D, .int .i64 p.R, .int .i64 p.M, .int .i64 p.X] : Array Value)[o]?) := Lib.hid (fun W hW => (HB0.out.grown ((grown_drewN' w0 1).trans hW) (by simp)).prule)
  have HRC : Hid (∀ W, w0.drew.grownBy W none → Calls Try.prog 35 #[p.v, .slice Am nm cm, .int .u64 x] W (Gives (encS encU) (fun g => W.heap.size ≤ g) W (colComsI p m x))) := Lib.hid (fun W hW => colComs_any p _ m x X W (h1.kept (HGd.out.trans hW)) hx hb1 (fun l hl => (hb2 l hl).1))
  have HFT : Hid (∀ W v, w0.drew.grownBy W none → Sl (encS encU) TT W v (colComsI p m x) → Calls Try.prog 30 #[p.v, .slice Al nl cl, v] W fun e w' => e = .returned (.bool (dfitsB p l (colComsI p m x))) ∧ W.grownBy w' none) := Lib.hid (fun W v hW hv => dfits_any p _ v l _ Y TT W hp (h2.kept (HGd.out.trans hW)) hv hb hb3)
  obtain ⟨R, hR⟩ : ∃ R, R = colComsI p m x := ⟨_, rfl⟩
  rw [← hR] at HRC HFT ⊢
  obtain ⟨B, hB⟩ : ∃ B, B = dfitsB p l R := ⟨_, rfl⟩
  rw [← hB] at HFT ⊢
  clear h1 h2 hp hx hb1 hb2 hb hb3 hR hB
  go_enter Try.func10, Try.ntmps10
  go_upto_region 1 with (fail)
  rw [← hw0]
  clear hw0
  refine wp_region_mono 7 (by kernel_rfl) (by kernel_rfl) ?_
  -- op 0 (slot 9): load
  refine MonoR.step (Pv.eq (p.v)) [] (by kernel_rfl) (fun w' hw' => ?_) ?_
  · refine ask_do rfl fun K hK => ?_
    have hp := HPR.out w' hw'
    go_simp
    exact hK _ _ rfl rfl (World.grownBy.refl _ none)
  -- op 1 (slot 10): move
  refine MonoR.step (Pv.eq (.slice Al nl cl)) [] (by kernel_rfl) (fun w' hw' => ?_) ?_
  · refine ask_do rfl fun K hK => ?_
    go_simp
    exact hK _ _ rfl rfl (World.grownBy.refl _ none)
  -- op 2 (slot 11): load
  refine MonoR.step (Pv.eq (p.v)) [] (by kernel_rfl) (fun w' hw' => ?_) ?_
  · refine ask_do rfl fun K hK => ?_
    have hp := HPR.out w' hw'
    go_simp
    exact hK _ _ rfl rfl (World.grownBy.refl _ none)
  -- op 3 (slot 12): move
  refine MonoR.step (Pv.eq (.slice Am nm cm)) [] (by kernel_rfl) (fun w' hw' => ?_) ?_
  · refine ask_do rfl fun K hK => ?_
    go_simp
    exact hK _ _ rfl rfl (World.grownBy.refl _ none)
  -- op 4 (slot 13): move
  refine MonoR.step (Pv.eq (.int .u64 x)) [] (by kernel_rfl) (fun w' hw' => ?_) ?_
  · refine ask_do rfl fun K hK => ?_
    go_simp
    exact hK _ _ rfl rfl (World.grownBy.refl _ none)
  -- op 5 (slot 14): call
  refine MonoR.step (Pv.sl (encS encU) TT R) [(2, 11), (3, 12), (4, 13)] (by kernel_rfl) (fun w' hw' => ?_) ?_
  · intro x11 h11
    intro x12 h12
    intro x13 h13
    have e11 : x11 = p.v := h11
    clear h11
    subst e11
    have e12 : x12 = .slice Am nm cm := h12
    clear h12
    subst e12
    have e13 : x13 = .int .u64 x := h13
    clear h13
    subst e13
    refine ask_do rfl fun K hK => ?_
    go_simp
    refine (HRC.out w' hw').mono ?_
    rintro e w3 ⟨v3, rfl, h3, hg⟩
    exact hK _ _ rfl (h3.more (fun _ _ _ => trivial)) hg
  -- op 6 (slot 15): call
  refine MonoR.step (Pv.eq (.bool B)) [(0, 9), (1, 10), (5, 14)] (by kernel_rfl) (fun w' hw' => ?_) ?_
  · intro x9 h9
    intro x10 h10
    intro x14 h14
    have h14 : Sl (encS encU) TT w' x14 R := h14
    obtain ⟨A14, c14, e14, k14, l14⟩ := h14.form
    have e14 : x14 = .slice A14 R.length c14 := e14
    subst e14
    have e9 : x9 = p.v := h9
    clear h9
    subst e9
    have e10 : x10 = .slice Al nl cl := h10
    clear h10
    subst e10
    refine ask_do rfl fun K hK => ?_
    go_simp
    refine (HFT.out w' _ hw' h14).mono ?_
    rintro e w3 ⟨rfl, hg⟩
    exact hK _ _ rfl rfl hg
  
  intro w5 hw5
  intro y0 k0 y1 k1 y2 k2 y3 k3 y4 k4 y5 k5 y6 k6
  have e6 : y6 = .bool B := k6
  subst e6
  have HGF : Hid (w.grownBy w5 none) := Lib.hid (HGd.out.trans hw5)
  clear k0 k1 k2 k3 k4 k5 k6 hw5 HRC HFT HPR
  show wpList Try.prog _ _ _ _ w5
  simp only [Act.put, List.setIfInBounds_toArray, List.set_cons_zero, List.set_cons_succ]
  go_wp2_with fail
  go_ret
  exact ⟨rfl, HGF.out⟩
set_option maxHeartbeats 1000000 in
theorem rcolFits_any (p : Par) (vm vl : Value) (m : List (List (List Int))) (x : Int) (l : List (List (Int × Int))) (X Y : Nat → Prop) (w : World) (hp : p.ok) (h1 : Sl (encS (encS encU)) X w vm m) (hx : U64 x) (h2 : Sl (encS encP) Y w vl l) (hb1 : m.length ≤ 100000) (hb2 : ∀ l ∈ m, l.length ≤ 100000 ∧ ∀ c ∈ l, c.length ≤ 100000) (hb : l.length ≤ 1000) (hb3 : ∀ c ∈ l, c.length ≤ 1000) :
    Calls Try.prog 11 #[p.v, vm, .int .u64 x, vl] w fun e w' => e = .returned (.bool (dfitsB p l (colComsI p m x))) ∧ w.grownBy w' none := by
  obtain ⟨Am, nm, cm, rfl⟩ := h1.shape
  obtain ⟨Al, nl, cl, rfl⟩ := h2.shape
  obtain ⟨w0, hw0⟩ : ∃ y, y = w.alloc (Obj.cells p.cells 24) := ⟨_, rfl⟩
  have HB0 : Hid (Bk w0 w.heap.size 24 p.cells) := Lib.hid (by rw [hw0]; exact Bk.new w _ _)
  have HG0 : Hid (w.grownBy w0 none) := Lib.hid (by rw [hw0]; exact World.grownBy_alloc w _ none)
  have HGd : Hid (w.grownBy w0.drew none) := Lib.hid (HG0.out.trans (grown_drewN' w0 1))
  have HPR : Hid (∀ W, w0.drew.grownBy W none → ∀ o, W.cell? ⟨w.heap.size, o, none⟩ = (#[.int .u64 p.P, .int .u64 p.Q, .int .u64 p.G, .int .u64 p.H, .int .i64 p.Nodes, .int .i64 p.N, .int .i64 p.T, .int .i64 p.K, .int .i64 p.D, .int .i64 p.R, .int .i64 p.M, .int .i64 p.X] : Array Value)[o]?) := Lib.hid (fun W hW => (HB0.out.grown ((grown_drewN' w0 1).trans hW) (by simp)).prule)
  have HRC : Hid (∀ W, w0.drew.grownBy W none → Calls Try.prog 36 #[p.v, .slice Am nm cm, .int .u64 x] W (Gives (encS encU) (fun g => W.heap.size ≤ g) W (colComsI p m x))) := Lib.hid (fun W hW => rcolComs_any p _ m x X W hp (h1.kept (HGd.out.trans hW)) hx hb1 (fun l hl => (hb2 l hl).1))
  have HCD : Hid (∀ W, w0.drew.grownBy W none → Calls Try.prog 33 #[p.v, .slice Al nl cl] W (Gives (encS encU) (fun g => W.heap.size ≤ g) W (l.map fun c => c.map (commitI p)))) := Lib.hid (fun W hW => rcommitted_any p _ l Y W hp (h2.kept (HGd.out.trans hW)) (by omega) (fun c hc => by have := hb3 c hc; omega))
  obtain ⟨B, hB⟩ : ∃ B, B = dfitsB p l (colComsI p m x) := ⟨_, rfl⟩
  have HBB : Hid (B = decide ((l.map fun c => c.map (commitI p)) = colComsI p m x)) := Lib.hid hB
  rw [← hB]
  obtain ⟨R, hR⟩ : ∃ R, R = colComsI p m x := ⟨_, rfl⟩
  obtain ⟨S, hS⟩ : ∃ S, S = l.map fun c => c.map (commitI p) := ⟨_, rfl⟩
  rw [← hR] at HRC HBB
  rw [← hS] at HCD HBB
  have HLS : Hid (∀ W v u, Sl (encS encU) TT W v S → Sl (encS encU) TT W u R → Calls Try.prog 32 #[v, u] W (Quietly W (.bool B))) := Lib.hid (fun W v u hv hu => by rw [HBB.out]; exact listsB_any v u S R TT TT W hv hu)
  clear h1 h2 hp hx hb1 hb2 hb hb3 hR hB hS
  go_enter Try.func11, Try.ntmps11
  go_upto_region 1 with (fail)
  rw [← hw0]
  clear hw0
  refine wp_region_mono 8 (by kernel_rfl) (by kernel_rfl) ?_
  -- op 0 (slot 9): load
  refine MonoR.step (Pv.eq (p.v)) [] (by kernel_rfl) (fun w' hw' => ?_) ?_
  · refine ask_do rfl fun K hK => ?_
    have hp := HPR.out w' hw'
    go_simp
    exact hK _ _ rfl rfl (World.grownBy.refl _ none)
  -- op 1 (slot 10): move
  refine MonoR.step (Pv.eq (.slice Al nl cl)) [] (by kernel_rfl) (fun w' hw' => ?_) ?_
  · refine ask_do rfl fun K hK => ?_
    go_simp
    exact hK _ _ rfl rfl (World.grownBy.refl _ none)
  -- op 2 (slot 11): call
  refine MonoR.step (Pv.sl (encS encU) TT S) [(0, 9), (1, 10)] (by kernel_rfl) (fun w' hw' => ?_) ?_
  · intro x9 h9
    intro x10 h10
    have e9 : x9 = p.v := h9
    clear h9
    subst e9
    have e10 : x10 = .slice Al nl cl := h10
    clear h10
    subst e10
    refine ask_do rfl fun K hK => ?_
    go_simp
    refine (HCD.out w' hw').mono ?_
    rintro e w3 ⟨v3, rfl, h3, hg⟩
    exact hK _ _ rfl (h3.more (fun _ _ _ => trivial)) hg
  -- op 3 (slot 12): load
  refine MonoR.step (Pv.eq (p.v)) [] (by kernel_rfl) (fun w' hw' => ?_) ?_
  · refine ask_do rfl fun K hK => ?_
    have hp := HPR.out w' hw'
    go_simp
    exact hK _ _ rfl rfl (World.grownBy.refl _ none)
  -- op 4 (slot 13): move
  refine MonoR.step (Pv.eq (.slice Am nm cm)) [] (by kernel_rfl) (fun w' hw' => ?_) ?_
  · refine ask_do rfl fun K hK => ?_
    go_simp
    exact hK _ _ rfl rfl (World.grownBy.refl _ none)
  -- op 5 (slot 14): move
  refine MonoR.step (Pv.eq (.int .u64 x)) [] (by kernel_rfl) (fun w' hw' => ?_) ?_
  · refine ask_do rfl fun K hK => ?_
    go_simp
    exact hK _ _ rfl rfl (World.grownBy.refl _ none)
  -- op 6 (slot 15): call
  refine MonoR.step (Pv.sl (encS encU) TT R) [(3, 12), (4, 13), (5, 14)] (by kernel_rfl) (fun w' hw' => ?_) ?_
  · intro x12 h12
    intro x13 h13
    intro x14 h14
    have e12 : x12 = p.v := h12
    clear h12
    subst e12
    have e13 : x13 = .slice Am nm cm := h13
    clear h13
    subst e13
    have e14 : x14 = .int .u64 x := h14
    clear h14
    subst e14
    refine ask_do rfl fun K hK => ?_
    go_simp
    refine (HRC.out w' hw').mono ?_
    rintro e w3 ⟨v3, rfl, h3, hg⟩
    exact hK _ _ rfl (h3.more (fun _ _ _ => trivial)) hg
  -- op 7 (slot 16): call
  refine MonoR.step (Pv.eq (.bool B)) [(2, 11), (6, 15)] (by kernel_rfl) (fun w' hw' => ?_) ?_
  · intro x11 h11
    have h11 : Sl (encS encU) TT w' x11 S := h11
    obtain ⟨A11, c11, e11, k11, l11⟩ := h11.form
    have e11 : x11 = .slice A11 S.length c11 := e11
    subst e11
    intro x15 h15
    have h15 : Sl (encS encU) TT w' x15 R := h15
    obtain ⟨A15, c15, e15, k15, l15⟩ := h15.form
    have e15 : x15 = .slice A15 R.length c15 := e15
    subst e15
    refine ask_do rfl fun K hK => ?_
    go_simp
    refine (HLS.out w' _ _ h11 h15).mono ?_
    rintro e w3 ⟨rfl, n3, rfl⟩
    exact hK _ _ rfl rfl (grown_drewN' w' n3)
  
  intro w5 hw5
  intro y0 k0 y1 k1 y2 k2 y3 k3 y4 k4 y5 k5 y6 k6 y7 k7
  have e7 : y7 = .bool B := k7
  subst e7
  have HGF : Hid (w.grownBy w5 none) := Lib.hid (HGd.out.trans hw5)
  clear k0 k1 k2 k3 k4 k5 k6 k7 hw5 HRC HCD HLS HPR
  show wpList Try.prog _ _ _ _ w5
  simp only [Act.put, List.setIfInBounds_toArray, List.set_cons_zero, List.set_cons_succ]
  go_wp2_with fail
  go_ret
  exact ⟨rfl, HGF.out⟩
set_option maxHeartbeats 1000000 in
theorem rmeets_any (p : Par) (vm vl : Value) (m : List (List (List Int))) (x y : Int) (l : List (Int × Int)) (X Y : Nat → Prop) (w : World) (hp : p.ok) (h1 : Sl (encS (encS encU)) X w vm m) (hx : U64 x) (hy : U64 y) (h2 : Sl encP Y w vl l) (hb1 : m.length ≤ 100000) (hb2 : ∀ l ∈ m, l.length ≤ 100000 ∧ ∀ c ∈ l, c.length ≤ 100000) (hb : l.length ≤ 100000) :
    Calls Try.prog 13 #[p.v, vm, .int .u64 x, .int .u64 y, vl] w fun e w' => e = .returned (.bool (fitsI p (rowComsI p m x) y l)) ∧ w.grownBy w' none := by
  obtain ⟨Am, nm, cm, rfl⟩ := h1.shape
  obtain ⟨Al, nl, cl, rfl⟩ := h2.shape
  obtain ⟨w0, hw0⟩ : ∃ y, y = w.alloc (Obj.cells p.cells 24) := ⟨_, rfl⟩
  have HB0 : Hid (Bk w0 w.heap.size 24 p.cells) := Lib.hid (by rw [hw0]; exact Bk.new w _ _)
  have HG0 : Hid (w.grownBy w0 none) := Lib.hid (by rw [hw0]; exact World.grownBy_alloc w _ none)
  have HGd : Hid (w.grownBy w0.drew none) := Lib.hid (HG0.out.trans (grown_drewN' w0 1))
  have HPR : Hid (∀ W, w0.drew.grownBy W none → ∀ o, W.cell? ⟨w.heap.size, o, none⟩ = (#[.int .u64 p.P, .int .u64 p.Q, .int .u64 p.G, .int .u64 p.H, .int .i64 p.Nodes, .int .i64 p.N, .int .i64 p.T, .int .i64 p.K, .int .i64 p.D, .int .i64 p.R, .int .i64 p.M, .int .i64 p.X] : Array Value)[o]?) := Lib.hid (fun W hW => (HB0.out.grown ((grown_drewN' w0 1).trans hW) (by simp)).prule)
  have HRC : Hid (∀ W, w0.drew.grownBy W none → Calls Try.prog 34 #[p.v, .slice Am nm cm, .int .u64 x] W (Gives (encS encU) (fun g => W.heap.size ≤ g) W (rowComsI p m x))) := Lib.hid (fun W hW => rrowComs_any p _ m x X W hp (h1.kept (HGd.out.trans hW)) hx hb1 hb2)
  have HFT : Hid (∀ W v, w0.drew.grownBy W none → Sl (encS encU) TT W v (rowComsI p m x) → Calls Try.prog 38 #[p.v, v, .int .u64 y, .slice Al nl cl] W fun e w' => e = .returned (.bool (fitsI p (rowComsI p m x) y l)) ∧ W.grownBy w' none) := Lib.hid (fun W v hW hv => rfits_any p v _ y _ l TT Y W hp hv hy (h2.kept (HGd.out.trans hW)) (by simpa [rowComsI] using hb1) hb)
  obtain ⟨R, hR⟩ : ∃ R, R = rowComsI p m x := ⟨_, rfl⟩
  rw [← hR] at HRC HFT ⊢
  obtain ⟨B, hB⟩ : ∃ B, B = fitsI p R y l := ⟨_, rfl⟩
  rw [← hB] at HFT ⊢
  clear h1 h2 hp hx hy hb1 hb2 hb hR hB
  go_enter Try.func13, Try.ntmps13
  go_upto_region 1 with (fail)
  rw [← hw0]
  clear hw0
  refine wp_region_mono 8 (by kernel_rfl) (by kernel_rfl) ?_
  -- op 0 (slot 11): load
  refine MonoR.step (Pv.eq (p.v)) [] (by kernel_rfl) (fun w' hw' => ?_) ?_
  · refine ask_do rfl fun K hK => ?_
    have hp := HPR.out w' hw'
    go_simp
    exact hK _ _ rfl rfl (World.grownBy.refl _ none)
  -- op 1 (slot 12): load
  refine MonoR.step (Pv.eq (p.v)) [] (by kernel_rfl) (fun w' hw' => ?_) ?_
  · refine ask_do rfl fun K hK => ?_
    have hp := HPR.out w' hw'
    go_simp
    exact hK _ _ rfl rfl (World.grownBy.refl _ none)
  -- op 2 (slot 13): move
  refine MonoR.step (Pv.eq (.slice Am nm cm)) [] (by kernel_rfl) (fun w' hw' => ?_) ?_
  · refine ask_do rfl fun K hK => ?_
    go_simp
    exact hK _ _ rfl rfl (World.grownBy.refl _ none)
  -- op 3 (slot 14): move
  refine MonoR.step (Pv.eq (.int .u64 x)) [] (by kernel_rfl) (fun w' hw' => ?_) ?_
  · refine ask_do rfl fun K hK => ?_
    go_simp
    exact hK _ _ rfl rfl (World.grownBy.refl _ none)
  -- op 4 (slot 15): call
  refine MonoR.step (Pv.sl (encS encU) TT R) [(1, 12), (2, 13), (3, 14)] (by kernel_rfl) (fun w' hw' => ?_) ?_
  · intro x12 h12
    intro x13 h13
    intro x14 h14
    have e12 : x12 = p.v := h12
    clear h12
    subst e12
    have e13 : x13 = .slice Am nm cm := h13
    clear h13
    subst e13
    have e14 : x14 = .int .u64 x := h14
    clear h14
    subst e14
    refine ask_do rfl fun K hK => ?_
    go_simp
    refine (HRC.out w' hw').mono ?_
    rintro e w3 ⟨v3, rfl, h3, hg⟩
    exact hK _ _ rfl (h3.more (fun _ _ _ => trivial)) hg
  -- op 5 (slot 16): move
  refine MonoR.step (Pv.eq (.int .u64 y)) [] (by kernel_rfl) (fun w' hw' => ?_) ?_
  · refine ask_do rfl fun K hK => ?_
    go_simp
    exact hK _ _ rfl rfl (World.grownBy.refl _ none)
  -- op 6 (slot 17): move
  refine MonoR.step (Pv.eq (.slice Al nl cl)) [] (by kernel_rfl) (fun w' hw' => ?_) ?_
  · refine ask_do rfl fun K hK => ?_
    go_simp
    exact hK _ _ rfl rfl (World.grownBy.refl _ none)
  -- op 7 (slot 18): call
  refine MonoR.step (Pv.eq (.bool B)) [(0, 11), (4, 15), (5, 16), (6, 17)] (by kernel_rfl) (fun w' hw' => ?_) ?_
  · intro x11 h11
    intro x15 h15
    have h15 : Sl (encS encU) TT w' x15 R := h15
    obtain ⟨A15, c15, e15, k15, l15⟩ := h15.form
    have e15 : x15 = .slice A15 R.length c15 := e15
    subst e15
    intro x16 h16
    intro x17 h17
    have e11 : x11 = p.v := h11
    clear h11
    subst e11
    have e16 : x16 = .int .u64 y := h16
    clear h16
    subst e16
    have e17 : x17 = .slice Al nl cl := h17
    clear h17
    subst e17
    refine ask_do rfl fun K hK => ?_
    go_simp
    refine (HFT.out w' _ hw' h15).mono ?_
    rintro e w3 ⟨rfl, hg⟩
    exact hK _ _ rfl rfl hg
  
  intro w5 hw5
  intro y0 k0 y1 k1 y2 k2 y3 k3 y4 k4 y5 k5 y6 k6 y7 k7
  have e7 : y7 = .bool B := k7
  subst e7
  have HGF : Hid (w.grownBy w5 none) := Lib.hid (HGd.out.trans hw5)
  clear k0 k1 k2 k3 k4 k5 k6 k7 hw5 HRC HFT HPR
  show wpList Try.prog _ _ _ _ w5
  simp only [Act.put, List.setIfInBounds_toArray, List.set_cons_zero, List.set_cons_succ]
  go_wp2_with fail
  go_ret
  exact ⟨rfl, HGF.out⟩
end Go.Proofs.Ytphbcfpiklmmeaa

namespace Go.Proofs.Ytphbcfpiklmmeaa
open Go.ChangeShapes Go.WideShapes Go.RowKit

set_option maxRecDepth 100000 in
theorem open_params {H : Type} {enc : TypeId × Value → H} {w : World} {base : Nat} {spare : Nat → Bool} {held : Bool} {r : Reach} {b0 : Nat} {v : Value} {d : DataW H} {pl : List MemPlace}
    (hv : Value.okWide Try.prog w r b0 24 v) (h : DataW.Trod enc Try.prog w base spare held 24 v d pl) : ∃ p : Par, v = p.v ∧ p.ok := by
  obtain ⟨cs, rfl, hsz⟩ := okWide_struct Try.underlying24 hv
  obtain ⟨l⟩ := cs
  have hc : Try.prog.cellsOf 24 = 12 := by kernel_rfl
  have cu : Try.prog.cellsOf 22 = 1 := by kernel_rfl
  have ci : Try.prog.cellsOf 3 = 1 := by kernel_rfl
  have cj : Try.prog.cellsOf 2 = 1 := by kernel_rfl
  match l, hsz.trans hc with
  | [c0, c1, c2, c3, c4, c5, c6, c7, c8, c9, c10, c11], _ =>
    obtain ⟨fuel, hf⟩ := h
    obtain ⟨xs, n, _, _, _, hlen, hg⟩ := DataW.trod_struct Try.underlying24 hf
    match xs, hlen with
    | [y0, y1, y2, y3, y4, y5, y6, y7, y8, y9, y10, y11], _ =>
      have g0 := hg 0 _ rfl
      have g1 := hg 1 _ rfl
      have g2 := hg 2 _ rfl
      have g3 := hg 3 _ rfl
      have g4 := hg 4 _ rfl
      have g5 := hg 5 _ rfl
      have g6 := hg 6 _ rfl
      have g7 := hg 7 _ rfl
      have g8 := hg 8 _ rfl
      have g9 := hg 9 _ rfl
      have g10 := hg 10 _ rfl
      have g11 := hg 11 _ rfl
      simp [Value.cells, cu, ci, cj] at g0 g1 g2 g3 g4 g5 g6 g7 g8 g9 g10 g11
      obtain ⟨a0, e0, _, w0⟩ := DataW.trod_int Try.underlying22 g0
      simp at e0
      obtain ⟨a1, e1, _, w1⟩ := DataW.trod_int Try.underlying22 g1
      simp at e1
      obtain ⟨a2, e2, _, w2⟩ := DataW.trod_int Try.underlying22 g2
      simp at e2
      obtain ⟨a3, e3, _, w3⟩ := DataW.trod_int Try.underlying22 g3
      simp at e3
      obtain ⟨a4, e4, _, w4⟩ := DataW.trod_int Try.underlying3 g4
      simp at e4
      obtain ⟨a5, e5, _, w5⟩ := DataW.trod_int Try.underlying3 g5
      simp at e5
      obtain ⟨a6, e6, _, w6⟩ := DataW.trod_int Try.underlying3 g6
      simp at e6
      obtain ⟨a7, e7, _, w7⟩ := DataW.trod_int Try.underlying3 g7
      simp at e7
      obtain ⟨a8, e8, _, w8⟩ := DataW.trod_int Try.underlying3 g8
      simp at e8
      obtain ⟨a9, e9, _, w9⟩ := DataW.trod_int Try.underlying3 g9
      simp at e9
      obtain ⟨a10, e10, _, w10⟩ := DataW.trod_int Try.underlying2 g10
      simp at e10
      obtain ⟨a11, e11, _, w11⟩ := DataW.trod_int Try.underlying2 g11
      simp at e11
      subst e0 e1 e2 e3 e4 e5 e6 e7 e8 e9 e10 e11
      exact ⟨⟨a0, a1, a2, a3, a4, a5, a6, a7, a8, a9, a10, a11⟩, rfl, ⟨u64_wf w0, u64_wf w1, u64_wf w2, u64_wf w3, i64_wf w4, i64_wf w5, i64_wf w6, i64_wf w7, i64_wf w8, i64_wf w9, i64_wf w10, i64_wf w11⟩⟩
theorem cells_u64 : Try.prog.cellsOf 22 = 1 := by kernel_rfl
theorem cells_pair : Try.prog.cellsOf 44 = 2 := by kernel_rfl
theorem cells_nums : Try.prog.cellsOf 35 = 1 := by kernel_rfl
theorem cells_rows : Try.prog.cellsOf 33 = 1 := by kernel_rfl
theorem cells_pairs : Try.prog.cellsOf 28 = 1 := by kernel_rfl
end Go.Proofs.Ytphbcfpiklmmeaa

namespace Go.Proofs.Ytphbcfpiklmmeaa
open Go.ChangeShapes Go.WideShapes Go.RowKit

/-- Whatever is read at this type, each of its slices no larger than the address space, reads so. -/
def ReadsZ {α : Type} (E : Enc α) (t : TypeId) (G : α → Prop) : Prop :=
  ∀ {H : Type} {enc : TypeId × Value → H} {w : World} {base : Nat} {spare : Nat → Bool} {held : Bool} {fuel : Nat} {cs : List Value} {x : DataW H × List MemPlace},
    DataW.trod enc Try.prog w base spare held fuel t cs = some x → (∀ b ∈ x.1.weights Try.prog t, b ≤ reachBytes) → ∃ a, E.rep (fun _ => True) w cs a ∧ G a
theorem Reads.z {α : Type} {E : Enc α} {t : TypeId} (h : Reads E t) : ReadsZ E t (fun _ => True) := fun ht _ => by
  obtain ⟨a, ha⟩ := h ht
  exact ⟨a, ha, trivial⟩
/-- Lists of no more than 2^44 things, each so. -/
def LG {α : Type} (G : α → Prop) (l : List α) : Prop := l.length ≤ 17592186044415 ∧ ∀ y ∈ l, G y
theorem weightsAll_mem {H : Type} {P : Program} {e : TypeId} {b : Nat} : ∀ {l : List (DataW H)} {d : DataW H}, d ∈ l → b ∈ d.weights P e → b ∈ DataW.weightsAll P e l
  | x :: l, d, hd, hb => by
    rw [DataW.weightsAll]
    rcases List.mem_cons.1 hd with rfl | hd
    · exact List.mem_append_left _ hb
    · exact List.mem_append_right _ (weightsAll_mem hd hb)
theorem reads_slZ {α : Type} {E : Enc α} {t e : TypeId} {G : α → Prop} (ht : Try.prog.underlying t = some (.slice e)) (hE : ReadsZ E e G) (hc : Try.prog.cellsOf e = E.size) (hb : 8 ≤ Try.prog.bytesOf e) : ReadsZ (encS E) t (LG G) := by
  intro H enc w base spare held fuel cs x h hz
  rcases Go.Deep.open_slice ht h with ⟨rfl, _⟩ | ⟨a, len, cap, m, n, D, Pl, rfl, _, hl, hm, hmm, rfl, hi⟩
  · exact ⟨[], ⟨_, rfl, Sl.nil _ _ _⟩, Nat.zero_le _, fun y hy => absurd hy (by simp)⟩
  · have hlm : len ≤ m := by rw [hmm]; split <;> omega
    have hzz : ∀ b ∈ DataW.weights Try.prog t (DataW.slice ((List.range len).map D) ((List.range (m - len)).map fun j => D (len + j))), b ≤ reachBytes := hz
    rw [DataW.weights, ht] at hzz
    have hz0 : (((List.range len).map D).length + ((List.range (m - len)).map fun j => D (len + j)).length) * Try.prog.bytesOf e ≤ reachBytes := hzz _ List.mem_cons_self
    have hlen8 : len ≤ 17592186044415 := by
      rw [List.length_map, List.length_map, List.length_range, List.length_range] at hz0
      have h1 : len * 8 ≤ (len + (m - len)) * Try.prog.bytesOf e := Nat.mul_le_mul (by omega) hb
      unfold reachBytes at hz0
      omega
    have hzi : ∀ i, i < len → ∀ b ∈ (D i).weights Try.prog e, b ≤ reachBytes := fun i hi b hb => hzz b (List.mem_cons_of_mem _ (List.mem_append_left _ (weightsAll_mem (List.mem_map.2 ⟨i, List.mem_range.2 hi, rfl⟩) hb)))
    have key : ∀ i, i < len → ∃ y, (∃ cs', E.rep (fun _ => True) w cs' y ∧ ∀ j, j < E.size → w.cell? (a.add (i * E.size + j)) = cs'[j]?) ∧ G y := by
      intro i hil
      obtain ⟨cs', hcell, htr⟩ := hi i (by omega)
      obtain ⟨y, hy, hG⟩ := hE htr (hzi i hil)
      obtain ⟨_, hlen, hat⟩ := World.cells?_some hcell
      rw [hc] at hat
      refine ⟨y, ⟨cs', hy, fun j hj => ?_⟩, hG⟩
      rw [← hat j hj, Go.Deep.add_add]
    have hcz : ∃ f : Fin len → α, ∀ i : Fin len, (∃ cs', E.rep (fun _ => True) w cs' (f i) ∧ ∀ j, j < E.size → w.cell? (a.add (i.1 * E.size + j)) = cs'[j]?) ∧ G (f i) :=
      ⟨fun i => Classical.choose (key i.1 i.2), fun i => Classical.choose_spec (key i.1 i.2)⟩
    obtain ⟨f, hf'⟩ := hcz
    have hf : ∀ i : Fin len, ∃ cs', E.rep (fun _ => True) w cs' (f i) ∧ ∀ j, j < E.size → w.cell? (a.add (i.1 * E.size + j)) = cs'[j]? := fun i => (hf' i).1
    have hlen : (List.ofFn f).length = len := List.length_ofFn
    refine ⟨List.ofFn f, ⟨_, rfl, some a, cap, by rw [hlen], by omega, by unfold maxLen at hm; omega, fun hn => ?_⟩, by rw [hlen]; exact hlen8, fun y hy => ?_⟩
    · have hpos : 0 < len := by rw [← hlen]; exact List.length_pos_iff.2 hn
      obtain ⟨cs0, hr0, hc0⟩ := hf ⟨0, hpos⟩
      have h00 := hc0 0 E.pos
      have hl0 := E.len hr0
      rw [List.getElem?_eq_getElem (by rw [hl0]; exact E.pos)] at h00
      obtain ⟨g, o, sp⟩ := a
      have hsp : sp = none := by simpa [Addr.add] using World.cell?_spot h00
      subst hsp
      have h00' : w.cell? ⟨g, o, none⟩ = some (cs0[0]'(by rw [hl0]; exact E.pos)) := by simpa [Addr.add] using h00
      have hgl : g < w.heap.size := by
        rcases Nat.lt_or_ge g w.heap.size with hlt | hge
        · exact hlt
        · simp [World.cell?, Array.getElem?_eq_none hge] at h00'
      refine ⟨g, o, rfl, hgl, trivial, fun i hi' => ?_⟩
      obtain ⟨cs', hr', hc'⟩ := hf ⟨i, by omega⟩
      refine ⟨cs', by simpa using hr', fun j u hu => ?_⟩
      have hj : j < E.size := by
        rw [← E.len hr']
        exact (List.getElem?_eq_some_iff.1 hu).1
      rw [← hu, ← hc' j hj]
      have : (⟨g, o, none⟩ : Addr).add (i * E.size + j) = ⟨g, o + i * E.size + j, none⟩ := by
        unfold Addr.add
        split
        · rename_i h0
          have : i * E.size + j = 0 := by simpa using h0
          rw [show o + i * E.size + j = o by omega]
        · rw [Nat.add_assoc]
      rw [this]
    · obtain ⟨i, rfl⟩ := List.mem_ofFn.1 hy
      exact (hf' i).2
/-- A slice that came in as an argument, within the bounds. -/
theorem open_slZ {α : Type} {E : Enc α} {t : TypeId} {G : List α → Prop} (hR : ReadsZ (encS E) t G) {H : Type} {enc : TypeId × Value → H} {w : World} {base : Nat} {spare : Nat → Bool} {held : Bool} {a : Option Addr} {len cap : Nat} {d : DataW H} {p : List MemPlace}
    (h : DataW.Trod enc Try.prog w base spare held t (.slice a len cap) d p) (hz : ∀ b ∈ d.weights Try.prog t, b ≤ reachBytes) : ∃ xs, Sl E (fun _ => True) w (.slice a len cap) xs ∧ G xs := by
  obtain ⟨fuel, hf⟩ := h
  obtain ⟨xs, ⟨v, e, hs⟩, hg⟩ := hR hf hz
  simp [Value.cells] at e
  exact ⟨xs, by rw [e]; exact hs, hg⟩
theorem weights_head {H : Type} {P : Program} {t : TypeId} {ts : List TypeId} {d : DataW H} {r : List (DataW H)} (h : (DataW.weightsEach P (t :: ts) (d :: r)).all (· ≤ reachBytes) = true) : ∀ b ∈ d.weights P t, b ≤ reachBytes := fun b hb => by
  have h2 := (List.all_eq_true.1 h) b (by rw [DataW.weightsEach]; exact List.mem_append_left _ hb)
  simpa using h2
theorem weights_tail {H : Type} {P : Program} {t : TypeId} {ts : List TypeId} {d : DataW H} {r : List (DataW H)} (h : (DataW.weightsEach P (t :: ts) (d :: r)).all (· ≤ reachBytes) = true) : (DataW.weightsEach P ts r).all (· ≤ reachBytes) = true :=
  List.all_eq_true.2 fun b hb => (List.all_eq_true.1 h) b (by rw [DataW.weightsEach]; exact List.mem_append_right _ hb)
theorem readsZ_nums : ReadsZ (encS encU) 35 (LG fun _ => True) := reads_slZ Try.underlying35 (Reads.z (reads_u64 Try.underlying22)) cells_u64 (of_decide_eq_true (by kernel_rfl))
theorem readsZ_pairs : ReadsZ (encS encP) 28 (LG fun _ => True) := reads_slZ Try.underlying28 (Reads.z (reads_pair Try.underlying44 ⟨rfl, rfl⟩ ⟨rfl, rfl⟩ Try.underlying22 cells_pair cells_u64)) cells_pair (of_decide_eq_true (by kernel_rfl))
theorem readsZ_rows : ReadsZ (encS (encS encU)) 33 (LG (LG fun _ => True)) := reads_slZ Try.underlying33 readsZ_nums cells_nums (of_decide_eq_true (by kernel_rfl))
theorem readsZ_mat : ReadsZ (encS (encS (encS encU))) 25 (LG (LG (LG fun _ => True))) := reads_slZ Try.underlying25 readsZ_rows cells_rows (of_decide_eq_true (by kernel_rfl))
theorem readsZ_prows : ReadsZ (encS (encS encP)) 26 (LG (LG fun _ => True)) := reads_slZ Try.underlying26 readsZ_pairs cells_pairs (of_decide_eq_true (by kernel_rfl))
end Go.Proofs.Ytphbcfpiklmmeaa

namespace Go.Proofs.Ytphbcfpiklmmeaa
open Go Go.RowKit Go.Shelf

set_option maxHeartbeats 1000000 in
theorem dpackG_any (vm va vb : Value) (M : List (List (List Int))) (a b : List (List (Int × Int))) (X Y Z : Nat → Prop) (w : World) (hm : Sl (encS (encS encU)) X w vm M) (ha : Sl (encS encP) Y w va a) (hb : Sl (encS encP) Z w vb b)
    (hk : PackOk M a b) :
    Calls Try.prog 15 #[vm, va, vb] w (Gives encU (fun g => w.heap.size ≤ g) w (packI M a b)) := by
  have HM := Lib.hid hm
  have HA := Lib.hid ha
  have HB := Lib.hid hb
  obtain ⟨m1, m2, m3, m4, m5, a1, a2, fa, b1, b2, fb⟩ := hk
  have M1 := Lib.hid (And.intro m1 m2)
  have A1 := Lib.hid (And.intro a1 a2)
  have B1 := Lib.hid (And.intro b1 b2)
  obtain ⟨Am, nm, cm, rfl⟩ := hm.shape
  obtain ⟨Aa, na, ca, rfl⟩ := ha.shape
  obtain ⟨Ab, nb, cb, rfl⟩ := hb.shape
  obtain ⟨mx, mt, hx, hpr⟩ : ∃ (x : List (List Int)) (t : List Int), M.flatten = x ∧ x.flatten = t := ⟨_, _, rfl, rfl⟩
  have fl1 : mx.length ≤ 300 ∧ ∀ y ∈ mx, y.length ≤ 300 := by rw [← hx]; exact ⟨m3, m4⟩
  have fl2 : mt.length ≤ 300 := by rw [← hpr, ← hx]; exact m5
  have F1 := Lib.hid fl1
  have F2 := Lib.hid fl2
  have FA := Lib.hid fa
  have FB := Lib.hid fb
  have HMX : Hid (M.flatten = mx ∧ mx.flatten = mt) := Lib.hid ⟨hx, hpr⟩
  clear hm ha hb m1 m2 m3 m4 m5 a1 a2 b1 b2 hx hpr fl1 fl2 fa fb
  go_enter Try.func15, Try.ntmps15
  go_wp2_with fail
  refine (flatR_any _ M X w HM.out (by have := M1.out.1; omega) (fun x hx => by have := M1.out.2 x hx; omega)).mono ?_
  rintro e w1 ⟨v1, rfl, hs1, hg1⟩
  have HG1 := Lib.hid hg1
  rw [HMX.out.1] at hs1
  have HS1 := Lib.hid hs1
  obtain ⟨Ax, nx, cx, rfl⟩ := hs1.shape
  clear hs1 hg1
  go_wp2_with fail
  refine (flatU_any _ mx TT w1 HS1.out (by have := F1.out.1; omega) (fun x hx => by have := F1.out.2 x hx; omega)).mono ?_
  rintro e w2 ⟨v2, rfl, hs2, hg2⟩
  have HG2 := hidTrans hg2 HG1
  rw [HMX.out.2] at hs2
  have HT2 : Hid (Sl encU (fun g => w.heap.size ≤ g) w2 v2 mt) := Lib.hid (hs2.more fun g _ h => Nat.le_trans HG1.out.size h)
  obtain ⟨Ay, ny, cy, rfl⟩ := hs2.shape
  clear hs2 hg2
  go_wp2_with fail
  refine (flatP_any _ a Y w2 (HA.out.kept HG2.out) (by have := A1.out.1; omega) (fun x hx => by have := A1.out.2 x hx; omega)).mono ?_
  rintro e w3 ⟨v3, rfl, hs3, hg3⟩
  have HG3 := hidTrans hg3 HG2
  have HT3 := Lib.hid (HT2.out.kept hg3)
  have HP3 := Lib.hid hs3
  obtain ⟨Az, nz, cz, rfl⟩ := hs3.shape
  clear hs3 hg3 HT2
  go_wp2_with fail
  refine (dpairs_any _ a.flatten _ w3 HP3.out (by have := FA.out; omega)).mono ?_
  rintro e w4 ⟨v4, rfl, hs4, hg4⟩
  have HT4 := Lib.hid (HT3.out.kept hg4)
  have HA4 : Hid (Sl encU (fun g => w.heap.size ≤ g) w4 v4 (prsN a.flatten)) := Lib.hid (hs4.more fun g _ h => Nat.le_trans HG3.out.size h)
  have HG4 := hidTrans hg4 HG3
  obtain ⟨Au, nu, cu, rfl⟩ := hs4.shape
  clear hs4 hg4 HT3 HP3
  go_wp2_with fail
  refine (flatP_any _ b Z w4 (HB.out.kept HG4.out) (by have := B1.out.1; omega) (fun x hx => by have := B1.out.2 x hx; omega)).mono ?_
  rintro e w5 ⟨v5, rfl, hs5, hg5⟩
  have HG5 := hidTrans hg5 HG4
  have HT5 := Lib.hid (HT4.out.kept hg5)
  have HA5 := Lib.hid (HA4.out.kept hg5)
  have HP5 := Lib.hid hs5
  obtain ⟨Av, nv, cv, rfl⟩ := hs5.shape
  clear hs5 hg5 HT4 HA4
  go_wp2_with fail
  refine (dpairs_any _ b.flatten _ w5 HP5.out (by have := FB.out; omega)).mono ?_
  rintro e w6 ⟨v6, rfl, hs6, hg6⟩
  have HG6 := hidTrans hg6 HG5
  have HT6 := Lib.hid (HT5.out.kept hg6)
  have HA6 := Lib.hid (HA5.out.kept hg6)
  have HB6 := Lib.hid hs6
  obtain ⟨Aw, nw, cw, rfl⟩ := hs6.shape
  have HTL : Hid (Sl (encS encU) TT (w6.alloc (Obj.cells #[.slice Ay ny cy, .slice Au nu cu, .slice Aw nw cw] 35)) (.slice (some ⟨w6.heap.size, 0, none⟩) 3 3) [mt, prsN a.flatten, prsN b.flatten]) := Lib.hid (Sl.build [[.slice Ay ny cy], [.slice Au nu cu], [.slice Aw nw cw]] rfl ⟨⟨_, rfl, HT6.out.more fun _ _ _ => trivial⟩, ⟨_, rfl, HA6.out.more fun _ _ _ => trivial⟩, ⟨_, rfl, hs6.more fun _ _ _ => trivial⟩, trivial⟩ rfl (by decide))
  obtain ⟨w7, hw7⟩ : ∃ y, y = w6.alloc (Obj.cells #[.slice Ay ny cy, .slice Au nu cu, .slice Aw nw cw] 35) := ⟨_, rfl⟩
  have HG7 : Hid (w.grownBy w7 none) := Lib.hid (by rw [hw7]; exact HG6.out.trans (World.grownBy_alloc _ _ none))
  rw [← hw7] at HTL
  clear hs6 hg6 HT5 HA5 HP5 HT6 HA6 HB6
  go_wp2_with fail
  rw [← hw7]
  clear hw7
  refine (flatU_any _ [mt, prsN a.flatten, prsN b.flatten] TT w7 HTL.out (by simp) (fun x hx => by
    simp only [List.mem_cons, List.not_mem_nil, or_false] at hx
    rcases hx with rfl | rfl | rfl
    · have := F2.out; omega
    · rw [prsN_len]; have := FA.out; omega
    · rw [prsN_len]; have := FB.out; omega)).mono ?_
  rintro e w8 ⟨v8, rfl, hs8, hg8⟩
  have HR : Hid (Sl encU (fun g => w.heap.size ≤ g) w8 v8 (packI M a b) ∧ w.grownBy w8 none) := Lib.hid ⟨by
    unfold packI
    rw [HMX.out.1, HMX.out.2]
    exact hs8.more fun g _ h => Nat.le_trans HG7.out.size h, HG7.out.trans hg8⟩
  clear hs8 hg8 HTL
  go_wp2
  go_ret
  exact ⟨_, rfl, HR.out⟩
/-- How many things there are, in all. -/
def cntP (l : List (List (Int × Int))) : Nat := l.length + l.flatten.length
def cntM (m : List (List (List Int))) : Nat := m.length + m.flatten.length + m.flatten.flatten.length
theorem cntP_snoc (l : List (List (Int × Int))) (j : Nat) (h : j < l.length) : (l.take (j + 1)).flatten.length = (l.take j).flatten.length + l[j].length := by
  rw [flat_snoc l j h, List.length_append]
set_option maxRecDepth 100000 in
set_option maxHeartbeats 2000000 in
theorem size18_any (v : Value) (l : List (List (Int × Int))) (X : Nat → Prop) (w : World) (h : Sl (encS encP) X w v l) (hb : l.length ≤ 17592186044415) (hb2 : ∀ c ∈ l, c.length ≤ 17592186044415) :
    Calls Try.prog 21 #[v] w fun e w' => ∃ n : Nat, e = .returned (.int .i64 n) ∧ n ≤ 17592186046000 ∧ (n < 1000 → n = cntP l) ∧ w = w' := by
  have H := Lib.hid h
  have HB2 := Lib.hid hb2
  obtain ⟨A, c, rfl, hc1, hc2⟩ := h.form
  obtain ⟨L, hL⟩ : ∃ L, L = l.length := ⟨_, rfl⟩
  have HL := Lib.hid hL
  rw [← hL] at hb hc1 H ⊢
  clear h hb2 hL
  have HS : Hid (w = w ∧ (L < 1000 → L = L + (l.take 0).flatten.length)) := Lib.hid ⟨rfl, fun _ => rfl⟩
  go_enter Try.func21, Try.ntmps21
  go_wp2_with fail
  go_loopg [3, 4] (if L < 1000 then L else 0) (fun gk s3 s4 wx => ∃ j n : Nat, (n < 1000 → j + gk = L) ∧ (1000 ≤ n → gk = 0) ∧ j ≤ L ∧ s4 = .int .i64 j ∧ s3 = .int .i64 n ∧ n ≤ 17592186046000 ∧ Hid (w = wx ∧ (n < 1000 → n = L + (l.take j).flatten.length)))
  case atStart => exact ⟨0, L, fun h => by rw [if_pos h]; omega, fun h => by rw [if_neg (by omega)], by omega, rfl, rfl, by omega, Lib.hid ⟨rfl, fun _ => rfl⟩⟩
  case round =>
    obtain ⟨j, n, hj1, hj2, hj3, rfl, rfl, hn9, HX⟩ := hrel
    obtain rfl : w = wr := HX.out.1
    cases gk with
    | zero =>
      have HR : Hid (n < 1000 → n = cntP l) := Lib.hid (fun hn => by
        have e := HX.out.2 hn
        have ej := hj1 hn
        rw [show j = l.length by rw [← HL.out]; omega, List.take_length, HL.out] at e
        exact e)
      clear HX HS
      by_cases hjL : (j : Int) < (L : Int)
      · have hn1 : ¬ ((n : Int) < 1000) := by
          intro h
          have := hj1 (by omega)
          omega
        go_wp2
        go_ret
        exact ⟨n, rfl, hn9, HR.out, rfl⟩
      · go_wp2
        go_ret
        exact ⟨n, rfl, hn9, HR.out, rfl⟩
    | succ m =>
      have hn : n < 1000 := by
        rcases Nat.lt_or_ge n 1000 with h | h
        · exact h
        · exact absurd (hj2 h) (by omega)
      have hjm := hj1 hn
      have hjn : (j : Int) < (L : Int) := by omega
      have hj0 : (0 : Int) ≤ (j : Int) := Int.natCast_nonneg j
      have hnI : (n : Int) < 1000 := by omega
      have hjN : j < l.length := by rw [← HL.out]; omega
      obtain ⟨g, o, c', u, e, _, _, hcu, hsu⟩ := H.out.atS hjN
      injection e with e1 e2 e3
      subst e1 e3
      obtain ⟨A1, c1, e1, q1, q2⟩ := hsu.form
      subst e1
      have HSN := Lib.hid (cntP_snoc l j hjN)
      have hlb : l[j].length ≤ 17592186044415 := HB2.out _ (List.getElem_mem hjN)
      have HOLD := Lib.hid (HX.out.2 hn)
      obtain ⟨k, hk⟩ : ∃ k, k = l[j].length := ⟨_, rfl⟩
      rw [← hk] at hcu HSN hlb
      clear hsu e2 HX HS hk q1 q2 hj1 hj2 hjN
      go_wp2_with fail
      go_roundg (if n + k < 1000 then m else 0)
      case measure => split <;> omega
      case rel => exact ⟨j + 1, n + k, fun h => by rw [if_pos h]; omega, fun h => by rw [if_neg (by omega)], by omega, by go_num, by go_num, by omega, Lib.hid ⟨rfl, fun _ => by rw [HSN.out, HOLD.out]; omega⟩⟩
end Go.Proofs.Ytphbcfpiklmmeaa

namespace Go.Proofs.Ytphbcfpiklmmeaa
open Go Go.RowKit Go.Shelf

/-- How many pairs more lists have. -/
def cntS (ls : List (List (List (Int × Int)))) : Nat := (ls.map cntP).sum
theorem cntS_snoc (ls : List (List (List (Int × Int)))) (j : Nat) (h : j < ls.length) : cntS (ls.take (j + 1)) = cntS (ls.take j) + cntP ls[j] := by
  unfold cntS
  rw [List.take_succ_eq_append_getElem h, List.map_append, List.sum_append]
  simp
theorem cntM_snoc (m : List (List (List Int))) (s : Nat) (h : s < m.length) : cntM (m.take (s + 1)) = cntM (m.take s) + 1 + m[s].length + m[s].flatten.length := by
  unfold cntM
  rw [List.take_succ_eq_append_getElem h, List.flatten_append, List.flatten_append]
  simp
  omega
set_option maxRecDepth 100000 in
set_option maxHeartbeats 4000000 in
theorem large18_any (vm vl : Value) (m : List (List (List Int))) (ls : List (List (List (Int × Int)))) (X Y : Nat → Prop) (w : World) (hm : Sl (encS (encS encU)) X w vm m) (hl : Sl (encS (encS encP)) Y w vl ls)
    (b1 : m.length ≤ 17592186044415) (b2 : ∀ r ∈ m, r.length ≤ 17592186044415) (b3 : ∀ r ∈ m, ∀ c ∈ r, c.length ≤ 17592186044415) (b4 : ls.length ≤ 2) (b5 : ∀ l ∈ ls, l.length ≤ 17592186044415) (b6 : ∀ l ∈ ls, ∀ c ∈ l, c.length ≤ 17592186044415) :
    Calls Try.prog 4 #[vm, vl] w fun e w' => ∃ B : Bool, e = .returned (.bool B) ∧ (B = false → cntM m + cntS ls < 300) ∧ w = w' := by
  have H := Lib.hid hm
  have K := Lib.hid hl
  have HB := Lib.hid (And.intro b2 (And.intro b3 (And.intro b5 b6)))
  obtain ⟨A, c, rfl, hc1, hc2⟩ := hm.form
  obtain ⟨A', c', rfl, hd1, hd2⟩ := hl.form
  obtain ⟨L, hL⟩ : ∃ L, L = m.length := ⟨_, rfl⟩
  have HL := Lib.hid hL
  obtain ⟨N, hN⟩ : ∃ N, N = ls.length := ⟨_, rfl⟩
  have HN := Lib.hid hN
  rw [← hL] at b1 hc1 H ⊢
  rw [← hN] at b4 hd1 K ⊢
  clear hm hl b2 b3 b5 b6 hL hN
  go_enter Try.func4, Try.ntmps4
  go_wp2_with fail
  go_loopg [5, 6] L (fun gk s5 s6 wx => ∃ s n : Nat, (n < 300 → s + gk = L) ∧ (300 ≤ n → gk = 0) ∧ s ≤ L ∧ s6 = .int .i64 s ∧ s5 = .int .i64 n ∧ n ≤ 20000000000000 ∧ Hid (w = wx ∧ (n < 300 → n = cntM (m.take s))))
  case atStart => exact ⟨0, 0, fun _ => by omega, fun h => by omega, by omega, rfl, rfl, by omega, Lib.hid ⟨rfl, fun _ => rfl⟩⟩
  case round =>
    obtain ⟨s, n, hs1, hs2, hs3, rfl, rfl, hn9, HX⟩ := hrel
    obtain rfl : w = wr := HX.out.1
    cases gk with
    | zero =>
      have HR : Hid (n < 300 → n = cntM m) := Lib.hid (fun hn => by
        have e := HX.out.2 hn
        have ej := hs1 hn
        rw [show s = m.length by rw [← HL.out]; omega, List.take_length] at e
        exact e)
      clear HX
      have hcc : ((s : Int) < (L : Int) ∧ ¬ ((n : Int) < 300)) ∨ ¬ ((s : Int) < (L : Int)) := by
        by_cases h : (s : Int) < (L : Int)
        · refine Or.inl ⟨h, fun hn => ?_⟩
          have := hs1 (by omega)
          omega
        · exact Or.inr h
      clear hs1 hs2
      rcases hcc with ⟨hjL, hn1⟩ | hjL
      · go_wp2_with fail
        go_loopg [5, 8] N (fun gk s5 s8 wx => ∃ j q : Nat, j + gk = N ∧ s8 = .int .i64 j ∧ s5 = .int .i64 q ∧ q ≤ 20000000000000 + j * 17592186046000 ∧ Hid (w = wx ∧ (q < 300 → q = cntM m + cntS (ls.take j))))
        case atStart => exact ⟨0, n, by omega, rfl, rfl, by omega, Lib.hid ⟨rfl, fun h => by rw [HR.out h]; rfl⟩⟩
        case round =>
          obtain ⟨j, q, hj1, rfl, rfl, hq9, HY⟩ := hrel
          obtain rfl : w = wr := HY.out.1
          cases gk with
          | zero =>
            have HQ : Hid (q < 300 → cntM m + cntS ls < 300) := Lib.hid (fun hq => by
              have e := HY.out.2 hq
              rw [show j = ls.length by rw [← HN.out]; omega, List.take_length] at e
              omega)
            have hjN : j = N := by omega
            subst hjN
            clear HY
            go_wp2
            go_ret
            refine ⟨_, rfl, fun hB => HQ.out ?_, rfl⟩
            have hB' := of_decide_eq_false hB
            omega
          | succ r =>
            have hjn : (j : Int) < (N : Int) := by omega
            have hj0 : (0 : Int) ≤ (j : Int) := Int.natCast_nonneg j
            have hjN : j < ls.length := by rw [← HN.out]; omega
            obtain ⟨g, o, c2, u, e, _, _, hcu, hsu⟩ := K.out.atS hjN
            injection e with e1 e2 e3
            subst e1 e3
            have HSN := Lib.hid (cntS_snoc ls j hjN)
            have HCALL := Lib.hid (size18_any u ls[j] _ w hsu (HB.out.2.2.1 _ (List.getElem_mem hjN)) (HB.out.2.2.2 _ (List.getElem_mem hjN)))
            have HOLD := Lib.hid HY.out.2
            obtain ⟨le, hle⟩ : ∃ le, le = ls[j] := ⟨_, rfl⟩
            rw [← hle] at HSN HCALL
            clear hsu e2 HY hle hjN
            go_wp2_with fail
            refine HCALL.out.mono ?_
            rintro e w1 ⟨z, rfl, hz1, hz2, rfl⟩
            have HZ := Lib.hid hz2
            clear hz2 HCALL
            go_wp2_with fail
            go_roundg r
            case measure => omega
            case rel => exact ⟨j + 1, q + z, by omega, by go_num, by go_num, by omega, Lib.hid ⟨rfl, fun hh => by rw [HSN.out, HOLD.out (by omega), HZ.out (by omega)]; omega⟩⟩
      · go_wp2_with fail
        go_loopg [5, 8] N (fun gk s5 s8 wx => ∃ j q : Nat, j + gk = N ∧ s8 = .int .i64 j ∧ s5 = .int .i64 q ∧ q ≤ 20000000000000 + j * 17592186046000 ∧ Hid (w = wx ∧ (q < 300 → q = cntM m + cntS (ls.take j))))
        case atStart => exact ⟨0, n, by omega, rfl, rfl, by omega, Lib.hid ⟨rfl, fun h => by rw [HR.out h]; rfl⟩⟩
        case round =>
          obtain ⟨j, q, hj1, rfl, rfl, hq9, HY⟩ := hrel
          obtain rfl : w = wr := HY.out.1
          cases gk with
          | zero =>
            have HQ : Hid (q < 300 → cntM m + cntS ls < 300) := Lib.hid (fun hq => by
              have e := HY.out.2 hq
              rw [show j = ls.length by rw [← HN.out]; omega, List.take_length] at e
              omega)
            have hjN : j = N := by omega
            subst hjN
            clear HY
            go_wp2
            go_ret
            refine ⟨_, rfl, fun hB => HQ.out ?_, rfl⟩
            have hB' := of_decide_eq_false hB
            omega
          | succ r =>
            have hjn : (j : Int) < (N : Int) := by omega
            have hj0 : (0 : Int) ≤ (j : Int) := Int.natCast_nonneg j
            have hjN : j < ls.length := by rw [← HN.out]; omega
            obtain ⟨g, o, c2, u, e, _, _, hcu, hsu⟩ := K.out.atS hjN
            injection e with e1 e2 e3
            subst e1 e3
            have HSN := Lib.hid (cntS_snoc ls j hjN)
            have HCALL := Lib.hid (size18_any u ls[j] _ w hsu (HB.out.2.2.1 _ (List.getElem_mem hjN)) (HB.out.2.2.2 _ (List.getElem_mem hjN)))
            have HOLD := Lib.hid HY.out.2
            obtain ⟨le, hle⟩ : ∃ le, le = ls[j] := ⟨_, rfl⟩
            rw [← hle] at HSN HCALL
            clear hsu e2 HY hle hjN
            go_wp2_with fail
            refine HCALL.out.mono ?_
            rintro e w1 ⟨z, rfl, hz1, hz2, rfl⟩
            have HZ := Lib.hid hz2
            clear hz2 HCALL
            go_wp2_with fail
            go_roundg r
            case measure => omega
            case rel => exact ⟨j + 1, q + z, by omega, by go_num, by go_num, by omega, Lib.hid ⟨rfl, fun hh => by rw [HSN.out, HOLD.out (by omega), HZ.out (by omega)]; omega⟩⟩
    | succ r =>
      have hn : n < 300 := by
        rcases Nat.lt_or_ge n 300 with h | h
        · exact h
        · exact absurd (hs2 h) (by omega)
      have hsr := hs1 hn
      have hjn : (s : Int) < (L : Int) := by omega
      have hj0 : (0 : Int) ≤ (s : Int) := Int.natCast_nonneg s
      have hnI : (n : Int) < 300 := by omega
      have hjN : s < m.length := by rw [← HL.out]; omega
      obtain ⟨g, o, c2, u, e, _, _, hcu, hsu⟩ := H.out.atS hjN
      injection e with e1 e2 e3
      subst e1 e3
      have HS2 := Lib.hid hsu
      obtain ⟨A1, c1, e1, q1, q2⟩ := hsu.form
      subst e1
      have HSN := Lib.hid (cntM_snoc m s hjN)
      have hlb : m[s].length ≤ 17592186044415 := HB.out.1 _ (List.getElem_mem hjN)
      have HB3 := Lib.hid (HB.out.2.1 _ (List.getElem_mem hjN))
      have HOLD := Lib.hid (HX.out.2 hn)
      obtain ⟨ms, hms⟩ : ∃ ms, ms = m[s] := ⟨_, rfl⟩
      rw [← hms] at hcu HSN hlb HB3 HS2 q1
      obtain ⟨k, hk⟩ : ∃ k, k = ms.length := ⟨_, rfl⟩
      have HK := Lib.hid hk
      rw [← hk] at hcu HSN hlb HS2 q1
      clear hsu e2 HX hk hs1 hs2 hjN hms
      go_wp2_with fail
      go_loopg [5, 7] (if n + 1 < 300 then k else 0) (fun gk s5 s7 wx => ∃ i q : Nat, (q < 300 → i + gk = k) ∧ (300 ≤ q → gk = 0) ∧ i ≤ k ∧ s7 = .int .i64 i ∧ s5 = .int .i64 q ∧ q ≤ 20000000000000 ∧ Hid (w = wx ∧ (q < 300 → q = cntM (m.take s) + 1 + i + (ms.take i).flatten.length)))
      case atStart => exact ⟨0, n + 1, fun h => by rw [if_pos h]; omega, fun h => by rw [if_neg (by omega)], by omega, rfl, by go_num, by omega, Lib.hid ⟨rfl, fun h => by rw [HOLD.out]; rfl⟩⟩
      case round =>
        obtain ⟨i, q, hi1, hi2, hi3, rfl, rfl, hq9, HY⟩ := hrel
        obtain rfl : w = wr := HY.out.1
        cases gk with
        | zero =>
          have HR : Hid (q < 300 → q = cntM (m.take (s + 1))) := Lib.hid (fun hq => by
            have e := HY.out.2 hq
            have ej := hi1 hq
            rw [show i = ms.length by rw [← HK.out]; omega, List.take_length, ← HK.out] at e
            rw [HSN.out, e])
          clear HY HOLD HSN
          have hcc : ((i : Int) < (k : Int) ∧ ¬ ((q : Int) < 300)) ∨ ¬ ((i : Int) < (k : Int)) := by
            by_cases h : (i : Int) < (k : Int)
            · refine Or.inl ⟨h, fun hn => ?_⟩
              have := hi1 (by omega)
              omega
            · exact Or.inr h
          clear hi1 hi2
          rcases hcc with ⟨hjL, hn1⟩ | hjL
          · go_wp2_with fail
            go_roundg (if q < 300 then r else 0)
            case measure => split <;> omega
            case rel => exact ⟨s + 1, q, fun h => by rw [if_pos h]; omega, fun h => by rw [if_neg (by omega)], by omega, by go_num, rfl, by omega, Lib.hid ⟨rfl, HR.out⟩⟩
          · go_wp2_with fail
            go_roundg (if q < 300 then r else 0)
            case measure => split <;> omega
            case rel => exact ⟨s + 1, q, fun h => by rw [if_pos h]; omega, fun h => by rw [if_neg (by omega)], by omega, by go_num, rfl, by omega, Lib.hid ⟨rfl, HR.out⟩⟩
        | succ x =>
          have hqn : q < 300 := by
            rcases Nat.lt_or_ge q 300 with h | h
            · exact h
            · exact absurd (hi2 h) (by omega)
          have hir := hi1 hqn
          have hin : (i : Int) < (k : Int) := by omega
          have hi0 : (0 : Int) ≤ (i : Int) := Int.natCast_nonneg i
          have hqI : (q : Int) < 300 := by omega
          have hiN : i < ms.length := by rw [← HK.out]; omega
          obtain ⟨g2, o2, c3, u2, e, _, _, hcv, hsv⟩ := HS2.out.atS hiN
          injection e with e1 e2 e3
          subst e1 e3
          obtain ⟨A3, c4, e3, q3, q4⟩ := hsv.form
          subst e3
          have HSV := Lib.hid (flat_snoc ms i hiN)
          have hlv : ms[i].length ≤ 17592186044415 := HB3.out _ (List.getElem_mem hiN)
          have HOLQ := Lib.hid (HY.out.2 hqn)
          obtain ⟨y, hy⟩ : ∃ y, y = ms[i].length := ⟨_, rfl⟩
          have HFL : Hid ((ms.take (i + 1)).flatten.length = (ms.take i).flatten.length + y) := Lib.hid (by rw [HSV.out, List.length_append, hy])
          rw [← hy] at hcv hlv
          clear hsv e2 HY hy hi1 hi2 hiN q3 q4 HSV
          go_wp2_with fail
          go_roundg (if q + 1 + y < 300 then x else 0)
          case measure => split <;> omega
          case rel => exact ⟨i + 1, q + 1 + y, fun h => by rw [if_pos h]; omega, fun h => by rw [if_neg (by omega)], by omega, by go_num, by go_num, by omega, Lib.hid ⟨rfl, fun _ => by rw [HFL.out, HOLQ.out]; omega⟩⟩
end Go.Proofs.Ytphbcfpiklmmeaa

namespace Go.Proofs.Ytphbcfpiklmmeaa
open Go.RowKit
end Go.Proofs.Ytphbcfpiklmmeaa
