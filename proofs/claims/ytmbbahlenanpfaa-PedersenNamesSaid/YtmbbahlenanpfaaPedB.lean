/- pedersen.RowComs, Fits, slices.Equal of numbers, walked. -/
import Derived.Test.YtmbbahlenanpfaaPedA
import Derived.Test.YtmbbahlenanpfaaPairM
import Derived.Deep.RegionHeld3
import Derived.Deep.DeepCutAuto
namespace Go.Proofs.Ytmbbahlenanpfaa
open Go.RowKit

theorem turnedI_length (p : Par) (l : List (List Int)) : (turnedI p l).length = wideI l := by simp [turnedI]
theorem turnedI_cols (p : Par) (l : List (List Int)) : ∀ c ∈ turnedI p l, c.length = l.length := by
  intro c hc
  obtain ⟨j, _, rfl⟩ := List.mem_map.1 hc
  simp [colI]
theorem shareI_length (p : Par) (l : List (List Int)) (x : Int) : (shareI p l x).length = l.length := by simp [shareI]
set_option maxRecDepth 100000 in
set_option maxHeartbeats 1000000 in
theorem rowComs_any (p : Par) (v : Value) (m : List (List (List Int))) (x : Int) (X : Nat → Prop) (w : World) (h : Sl (encS (encS encU)) X w v m) (hx : U64 x) (hb : m.length ≤ 100000) (hb2 : ∀ l ∈ m, l.length ≤ 100000 ∧ ∀ c ∈ l, c.length ≤ 100000) :
    Calls Try.prog 6 #[p.v, v, .int .u64 x] w (Gives (encS encU) (fun g => w.heap.size ≤ g) w (rowComsI p m x)) := by
  have H := Lib.hid h
  have HI := Lib.hid hx
  have HB2 := Lib.hid hb2
  obtain ⟨A, c, rfl, hc1, hc2⟩ := h.form
  have HST : Hid (Acc (encS encU) w.heap.size 27 (fun g => w.heap.size ≤ g) (w.alloc (Obj.cells p.cells 25)) (.slice none 0 0) ((m.take 0).map fun l => shareI p (turnedI p l) x) ∧ w.grownBy (w.alloc (Obj.cells p.cells 25)) none ∧ Bk (w.alloc (Obj.cells p.cells 25)) w.heap.size 25 p.cells) := Lib.hid ⟨Acc.nil _ _ _ _ _, World.grownBy_alloc w _ none, Bk.new w _ _⟩
  clear h hx hb2
  go_enter Try.func6, Try.ntmps6
  go_wp2_with fail
  go_loopg [7, 12] m.length (fun g s7 s12 wx => ∃ j : Nat, j + g = m.length ∧ s12 = .int .i64 j ∧ Hid (Acc (encS encU) w.heap.size 27 (fun g => w.heap.size ≤ g) wx s7 ((m.take j).map fun l => shareI p (turnedI p l) x) ∧ w.grownBy wx none ∧ Bk wx w.heap.size 25 p.cells))
  case atStart => exact ⟨0, by omega, rfl, HST⟩
  case round =>
    obtain ⟨j, hj, rfl, HX⟩ := hrel
    cases gk with
    | zero =>
      obtain rfl : j = m.length := by omega
      have HR : Hid (Sl (encS encU) (fun g => w.heap.size ≤ g) wr u7 (rowComsI p m x) ∧ w.grownBy wr none) := Lib.hid ⟨by have := HX.out.1.sl; rwa [List.take_length] at this, HX.out.2.1⟩
      clear HX HST
      go_wp2
      go_ret
      exact ⟨_, rfl, HR.out.1, HR.out.2⟩
    | succ n =>
      have hjn : (j : Int) < (m.length : Int) := by omega
      have hjN : j < m.length := by omega
      obtain ⟨hacc, hg, hbp⟩ := HX.out
      obtain ⟨g, o, c', u, e, _, _, hcu, hsu⟩ := (H.out.kept hg).atS hjN
      injection e with e1 e2 e3
      subst e1 e3
      obtain ⟨A1, c1, e1, _, _⟩ := hsu.form
      subst e1
      have HSN := Lib.hid (map_take_snoc' (fun l => shareI p (turnedI p l) x) m j hjN)
      obtain ⟨hz1, hz2⟩ := HB2.out m[j] (List.getElem_mem hjN)
      have HT := Lib.hid (fun (w' : World) (hw : wr.grownBy w' none) => turned_any p _ m[j] X w' (hsu.kept hw) hz1 hz2)
      have HWD := Lib.hid (wide_le m[j] 100000 hz2)
      have HF := Lib.hid (fun (v : Value) (Y : Nat → Prop) (w' : World) (hv : Sl (encS encU) Y w' v (turnedI p m[j])) => share_any p v _ x Y w' hv HI.out (by rw [turnedI_length]; exact HWD.out))
      have HSL : Hid ((shareI p (turnedI p m[j]) x).length = wideI m[j]) := Lib.hid (by rw [shareI_length, turnedI_length])
      have HAC : Hid (Acc (encS encU) w.heap.size 27 (fun g => w.heap.size ≤ g) wr.drew u7 ((m.take j).map fun l => shareI p (turnedI p l) x)) := Lib.hid (hacc.kept (grownBy_drewN (World.grownBy.refl wr none) 1))
      have HG : Hid (w.grownBy wr.drew none) := Lib.hid (grownBy_drewN hg 1)
      have HGd : Hid (wr.grownBy wr.drew none) := Lib.hid (grownBy_drewN (World.grownBy.refl wr none) 1)
      have HBp : Hid (Bk wr.drew w.heap.size 25 p.cells) := Lib.hid (hbp.drewN 1)
      have hp := hbp.prule
      have hlt := hbp.lt
      have HLB : Hid ((((m.take j).map fun l => shareI p (turnedI p l) x).length + 1) * 24 ≤ 140737488355328) := Lib.hid (by simp; omega)
      clear hacc hg hbp hsu e2 HX HST hz1 hz2
      generalize hy : m[j] = z at HSN HF hcu HSL HT HWD
      clear hy
      generalize z.length = n1 at *
      go_wp2_with fail
      go_region_held3 (fun w' => ∀ o, w'.cell? ⟨w.heap.size, o, none⟩ = (#[.int .u64 p.P, .int .u64 p.Q, .int .u64 p.G, .int .u64 p.H, .int .i64 p.Nodes, .int .i64 p.N, .int .i64 p.T, .int .i64 p.K, .int .i64 p.D, .int .i64 p.R, .int .i64 p.M, .int .i64 p.X] : Array Value)[o]?) (first | assumption | exact rule_alloc (by assumption) (by assumption) _ | go_keep) (first
        | (go_at_call 17; (with_reducible refine (HT.out _ HGd.out).mono ?_); rintro e' w1 ⟨v1, rfl, hs1, hg1⟩; have HV1 := Lib.hid hs1; have HG1 := Lib.hid (HG.out.trans hg1); have HA1 := Lib.hid (HAC.out.kept hg1); have HB1 := Lib.hid (HBp.out.grown hg1 (by simp)); have hp1 := HB1.out.prule; have hl1 := HB1.out.lt; clear hs1 hg1)
        | (go_at_call 13; (with_reducible refine (HF.out _ _ _ HV1.out).mono ?_); rintro e' w2 ⟨v2, rfl, hs2, hg2⟩; obtain ⟨A2, c2, e2, _, _⟩ := hs2.form; rw [HSL.out] at e2; subst e2; have HG2 := Lib.hid (HG1.out.trans hg2); have HA2 := Lib.hid (HA1.out.kept hg2); have HB2 := Lib.hid (HB1.out.grown hg2 (by simp)); have hp2 := HB2.out.prule; have hl2 := HB2.out.lt; have HREP : Hid (Enc.rep (encS encU) (fun g => w.heap.size ≤ g ∧ some g ≠ u7.ownBlock) w2 [.slice A2 (wideI z) c2] (shareI p (turnedI p z) x)) := Lib.hid ⟨_, rfl, hs2.fresh HG1.out HA1.out⟩; clear hs2 hg2)
        | (refine step_pushG rfl (.tmp 16) (.tmp 23) rfl (E := encS encU) (y := shareI p (turnedI p z) x) el_nums HG2.out HA2.out (fun _ h => h) HREP.out HLB.out rfl rfl ?_; intro v3 w3 hacc3 hg3 hgo3; have HA3 := Lib.hid hacc3; have HG3 := Lib.hid hg3; have HB3 := Lib.hid (HB2.out.grown hgo3 (fun e => HA2.out.ne_bk HB2.out (by decide) e.symm)); have hp3 := HB3.out.prule; clear hacc3 hg3 hgo3))
      have HFIN : Hid (Acc (encS encU) w.heap.size 27 (fun g => w.heap.size ≤ g) w3 v3 ((m.take (j + 1)).map fun l => shareI p (turnedI p l) x) ∧ w.grownBy w3 none ∧ Bk w3 w.heap.size 25 p.cells) := Lib.hid ⟨by rw [HSN.out]; simpa using HA3.out, HG3.out, HB3.out⟩
      clear HA3 HG3 HB3
      go_wp2_with fail
      go_roundg n
      case measure => omega
      case rel => exact ⟨j + 1, by omega, by go_num, HFIN⟩
set_option maxRecDepth 100000 in
set_option maxHeartbeats 400000 in
theorem sequal_any (v1 v2 : Value) (xs ys : List Int) (X Y : Nat → Prop) (w : World) (h1 : Sl encU X w v1 xs) (h2 : Sl encU Y w v2 ys) :
    Calls Try.prog 26 #[v1, v2] w fun e w' => e = .returned (.bool (decide (xs = ys))) ∧ w.grownBy w' none := by
  have H1 := Lib.hid h1
  have H2 := Lib.hid h2
  obtain ⟨A1, c1, rfl, hc1, hc2⟩ := h1.form
  obtain ⟨A2, c2, rfl, hc3, hc4⟩ := h2.form
  clear h1 h2
  by_cases hl : xs.length = ys.length
  · have HLN := Lib.hid hl
    have HST : Hid ((∃ n, w = w.drewN n) ∧ xs.take 0 = ys.take 0) := Lib.hid ⟨⟨0, rfl⟩, rfl⟩
    rw [hl] at H1 hc1 ⊢
    clear hl
    go_enter Try.func26, Try.ntmps26
    go_wp2_with fail
    go_loopg [13] ys.length (fun g s13 wx => ∃ j : Nat, j + g = ys.length ∧ s13 = .int .i64 j ∧ Hid ((∃ n, wx = w.drewN n) ∧ xs.take j = ys.take j))
    case atStart => exact ⟨0, by omega, rfl, HST⟩
    case round =>
      obtain ⟨j, hj, rfl, HX⟩ := hrel
      obtain ⟨⟨n0, rfl⟩, htk⟩ := HX.out
      cases gk with
      | zero =>
        obtain rfl : j = ys.length := by omega
        have HE : Hid (decide (xs = ys) = true) := Lib.hid (by
          rw [List.take_length, ← HLN.out, List.take_length] at htk
          simpa using htk)
        clear HX HST htk
        go_wp2
        go_ret
        exact ⟨ret_bool HE.out.symm, grown_drewN' w _⟩
      | succ m =>
        have hjn : (j : Int) < (ys.length : Int) := by omega
        have hj0 : (0 : Int) ≤ (j : Int) := by omega
        have hjN : j < ys.length := by omega
        have hjX : j < xs.length := by rw [HLN.out]; exact hjN
        obtain ⟨g1, o1, c1', e1, _, _, a1, u1⟩ := (HLN.out ▸ H1.out : Sl encU X w (.slice A1 xs.length c1) xs).atU hjX
        injection e1 with e11 e12 e13
        subst e11 e13
        obtain ⟨g2, o2, c2', e2, _, _, a2, _⟩ := H2.out.atU hjN
        injection e2 with e21 e22 e23
        subst e21 e23
        have HSX := Lib.hid (List.take_succ_eq_append_getElem hjX)
        have HSY := Lib.hid (List.take_succ_eq_append_getElem hjN)
        have HTK := Lib.hid htk
        by_cases hxy : xs[j] = ys[j]
        · have HNX : Hid (xs.take (j + 1) = ys.take (j + 1)) := Lib.hid (by rw [HSX.out, HSY.out, hxy, HTK.out])
          rw [hxy] at a1
          clear HX HST e12 e22 htk hxy HSX HSY
          generalize ys[j] = y at *
          go_wp2_with fail
          go_quiet (fail)
          go_wp2_with fail
          go_roundg m
          case measure => omega
          case rel => exact ⟨j + 1, by omega, by go_num, Lib.hid ⟨⟨_, rfl⟩, HNX.out⟩⟩
        · have HE : Hid (decide (xs = ys) = false) := Lib.hid (by simp only [decide_eq_false_iff_not]; intro e; apply hxy; subst e; rfl)
          have hd : (xs[j] != ys[j]) = true := by simpa using hxy
          clear HX HST e12 e22 htk hxy HSX HSY
          generalize ys[j] = y at *
          generalize xs[j] = x at *
          go_wp2_with fail
          go_quiet (fail)
          go_wp2
          go_ret
          exact ⟨ret_bool HE.out.symm, (grown_drewN' w _).trans (grown_drewN' _ _)⟩
  · have hd : ((xs.length : Int) != (ys.length : Int)) = true := by simp; omega
    have HE : Hid (decide (xs = ys) = false) := Lib.hid (by simp only [decide_eq_false_iff_not]; intro e; exact hl (by rw [e]))
    clear hl
    go_enter Try.func26, Try.ntmps26
    go_wp2
    go_ret
    exact ⟨ret_bool HE.out.symm, World.grownBy.refl w none⟩
theorem commit_U64' (p : Par) (x : Int × Int) : U64 (commitI p x) := timesI_U64 _ _
def fitsI (p : Par) (coms : List (List Int)) (i : Int) (l : List (Int × Int)) : Bool := decide (l.map (commitI p) = shareI p coms i)
set_option maxRecDepth 100000 in
set_option maxHeartbeats 1000000 in
theorem fits_any (p : Par) (v1 : Value) (coms : List (List Int)) (i : Int) (v2 : Value) (l : List (Int × Int)) (X Y : Nat → Prop) (w : World) (hp : p.ok) (h1 : Sl (encS encU) X w v1 coms) (hi : U64 i) (h2 : Sl encP Y w v2 l) (hb : coms.length ≤ 100000) (hb2 : l.length ≤ 100000) :
    Calls Try.prog 14 #[p.v, v1, .int .u64 i, v2] w fun e w' => e = .returned (.bool (fitsI p coms i l)) ∧ w.grownBy w' none := by
  have HP := Lib.hid hp
  have HSH := Lib.hid (fun (w' : World) (hw : w.grownBy w' none) => share_any p v1 coms i X w' (h1.kept hw) hi hb)
  have H := Lib.hid h2
  obtain ⟨A, c, rfl, hc1, hc2⟩ := h2.form
  have HST : Hid (Acc encU w.heap.size 23 (fun g => w.heap.size ≤ g) (w.alloc (Obj.cells p.cells 25)) (.slice none 0 0) ((l.take 0).map (commitI p)) ∧ w.grownBy (w.alloc (Obj.cells p.cells 25)) none ∧ Bk (w.alloc (Obj.cells p.cells 25)) w.heap.size 25 p.cells) := Lib.hid ⟨Acc.nil _ _ _ _ _, World.grownBy_alloc w _ none, Bk.new w _ _⟩
  clear h1 h2 hi hp hb
  go_enter Try.func14, Try.ntmps14
  go_wp2_with fail
  go_loopg [9, 14] l.length (fun g s9 s14 wx => ∃ j : Nat, j + g = l.length ∧ s14 = .int .i64 j ∧ Hid (Acc encU w.heap.size 23 (fun g => w.heap.size ≤ g) wx s9 ((l.take j).map (commitI p)) ∧ w.grownBy wx none ∧ Bk wx w.heap.size 25 p.cells))
  case atStart => exact ⟨0, by omega, rfl, HST⟩
  case round =>
    obtain ⟨j, hj, rfl, HX⟩ := hrel
    cases gk with
    | zero =>
      obtain rfl : j = l.length := by omega
      have HS9 : Hid (Sl encU (fun g => w.heap.size ≤ g) wr u9 (l.map (commitI p))) := Lib.hid (by have := HX.out.1.sl; rwa [List.take_length] at this)
      have HG := Lib.hid HX.out.2.1
      have hp := HX.out.2.2.prule
      clear HX HST
      go_wp2_with fail
      refine (HSH.out _ HG.out).mono ?_
      rintro e' w1 ⟨u1, rfl, hs1, hg1⟩
      have HEQ := Lib.hid (sequal_any u9 u1 _ _ _ _ w1 (HS9.out.kept hg1) hs1)
      have HG1 := Lib.hid (HG.out.trans hg1)
      clear hs1 hg1 hp
      go_wp2_with fail
      refine HEQ.out.mono ?_
      rintro e' w2 ⟨rfl, hg2⟩
      have HG2 := Lib.hid (HG1.out.trans hg2)
      clear hg2
      go_wp2
      go_ret
      exact ⟨rfl, HG2.out⟩
    | succ m =>
      have hjn : (j : Int) < (l.length : Int) := by omega
      have hjN : j < l.length := by omega
      obtain ⟨hacc, hg, hbp⟩ := HX.out
      obtain ⟨g, o, c', e, hgl, _, hcu1, hcu2, hu1, hu2⟩ := (H.out.kept hg).atP hjN
      injection e with e1 e2 e3
      subst e1 e3
      have HSN := Lib.hid (map_take_snoc' (commitI p) l j hjN)
      have HU := Lib.hid (commit_U64' p l[j])
      have HF := Lib.hid (fun (w' : World) => commit_any p l[j] w' HP.out hu1 hu2)
      generalize hy : l[j] = y at HSN HU HF hcu1 hcu2 hu1 hu2
      clear hy
      have HG1 : Hid (wr.grownBy (wr.alloc (Obj.cells #[.int .u64 y.1, .int .u64 y.2] 41)) none) := Lib.hid (World.grownBy_alloc wr _ none)
      have HAC := Lib.hid (hacc.kept HG1.out)
      have HG := Lib.hid (hg.trans HG1.out)
      have HBp := Lib.hid (hbp.grown HG1.out (by simp))
      have hp := hbp.prule
      have hlp := hbp.lt
      have HLB : Hid ((((l.take j).map (commitI p)).length + 1) * 8 ≤ 140737488355328) := Lib.hid (by simp; omega)
      clear hacc hg hbp e2 HX HST hu1 hu2
      go_wp2_with fail
      refine (HF.out _).mono ?_
      rintro e' w1 ⟨rfl, hg1⟩
      have HG2 := Lib.hid (HG.out.trans hg1)
      have HA1 := Lib.hid (HAC.out.kept hg1)
      have HBp1 := Lib.hid (HBp.out.grown hg1 (by simp))
      clear hg1 hp
      go_wp2_with (at_builtin; refine wpList_pushG rfl (.tmp 18) (.tmp 22) rfl (E := encU) el_u64 HG2.out HA1.out (fun _ h => h) ⟨rfl, HU.out⟩ HLB.out rfl rfl ?_)
      intro v2 w2 hacc2 hg2 hgo
      have HFIN : Hid (Acc encU w.heap.size 23 (fun g => w.heap.size ≤ g) w2 v2 ((l.take (j + 1)).map (commitI p)) ∧ w.grownBy w2 none ∧ Bk w2 w.heap.size 25 p.cells) := Lib.hid ⟨by rw [HSN.out]; simpa using hacc2, hg2, HBp1.out.grown hgo (fun e => HA1.out.ne_bk HBp1.out (by decide) e.symm)⟩
      clear hacc2 hg2 hgo
      go_wp2_with fail
      go_roundg m
      case measure => omega
      case rel => exact ⟨j + 1, by omega, by go_num, HFIN⟩
end Go.Proofs.Ytmbbahlenanpfaa
