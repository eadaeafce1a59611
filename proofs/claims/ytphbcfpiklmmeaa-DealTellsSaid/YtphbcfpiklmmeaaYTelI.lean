/- consistorylaw18.DealTells, whatever comes in: walked (printed by mkt.py). -/
import Derived.Test.YtphbcfpiklmmeaaZ3
namespace Go.Proofs.Ytphbcfpiklmmeaa
open Go Go.RowKit Go.Shelf

theorem mem_flat_le {α : Type} : ∀ (l : List (List α)) (x : List α), x ∈ l → x.length ≤ l.flatten.length
  | y :: l, x, h => by
    rw [List.flatten_cons, List.length_append]
    rcases List.mem_cons.1 h with rfl | h
    · omega
    · have := mem_flat_le l x h
      omega
theorem cnt_ok (m : List (List (List Int))) (a b : List (List (Int × Int))) (h : cntM m + cntS [a, b] < 300) : PackOk m a b := by
  have e : cntS [a, b] = cntP a + (cntP b + 0) := by simp [cntS]
  unfold cntM at h
  unfold cntP at e
  exact ⟨by omega, fun x hx => by have := mem_flat_le m x hx; omega, by omega, fun y hy => by have := mem_flat_le m.flatten y hy; omega, by omega, by omega, fun x hx => by have := mem_flat_le a x hx; omega, by omega, by omega, fun x hx => by have := mem_flat_le b x hx; omega, by omega⟩
set_option maxRecDepth 100000 in
set_option maxHeartbeats 8000000 in
theorem dealTells_any (p : Par) (vm va vb : Value) (m : List (List (List Int))) (a b : List (List (Int × Int))) (x y : Int) (X Y Z : Nat → Prop) (w : World) (hp : p.ok) (hm : Sl (encS (encS encU)) X w vm m) (ha : Sl (encS encP) Y w va a) (hb : Sl (encS encP) Z w vb b) (hx : U64 x) (hy : U64 y)
    (gm : LG (LG (LG fun _ => True)) m) (ga : LG (LG fun _ => True) a) (gb : LG (LG fun _ => True) b) :
    Calls Try.prog 3 #[p.v, vm, va, vb, .int .u64 x, .int .u64 y] w fun e w' => e = .returned (.bool true) ∧ w.grownBy w' none := by
  have HM := Lib.hid hm
  have HA := Lib.hid ha
  have HB := Lib.hid hb
  have HXY := Lib.hid (And.intro hx (And.intro hy hp))
  have HLA := Lib.hid (fun (W : World) (v v' : Value) (h : Sl (encS (encS encP)) TT W v' [a, b]) (h2 : Sl (encS (encS encU)) TT W v m) => large18_any v v' m [a, b] TT TT W h2 h gm.1 (fun r hr => (gm.2 r hr).1) (fun r hr c hc => ((gm.2 r hr).2 c hc).1) (by simp) (fun l hl => by
    simp only [List.mem_cons, List.not_mem_nil, or_false] at hl
    rcases hl with rfl | rfl
    · exact ga.1
    · exact gb.1) (fun l hl c hc => by
    simp only [List.mem_cons, List.not_mem_nil, or_false] at hl
    rcases hl with rfl | rfl
    · exact (ga.2 c hc).1
    · exact (gb.2 c hc).1))
  obtain ⟨Am, cm, rfl, km, jm⟩ := hm.form
  obtain ⟨Aa, ca, rfl, ka, ja⟩ := ha.form
  obtain ⟨Ab, cb, rfl, _, _⟩ := hb.form
  obtain ⟨nm, hnm⟩ : ∃ n, n = m.length := ⟨_, rfl⟩
  obtain ⟨na, hna⟩ : ∃ n, n = a.length := ⟨_, rfl⟩
  obtain ⟨nb, hnb⟩ : ∃ n, n = b.length := ⟨_, rfl⟩
  have HN := Lib.hid (And.intro hnm (And.intro hna hnb))
  rw [← hnm] at HM km ⊢
  rw [← hna] at HA ka ⊢
  rw [← hnb] at HB ⊢
  obtain ⟨w0, hw0⟩ : ∃ y, y = w.alloc (Obj.cells p.cells 24) := ⟨_, rfl⟩
  have HB0 : Hid (Bk w0 w.heap.size 24 p.cells) := Lib.hid (by rw [hw0]; exact Bk.new w _ _)
  have HG0 : Hid (w.grownBy w0 none) := Lib.hid (by rw [hw0]; exact World.grownBy_alloc w _ none)
  obtain ⟨w1, hw1⟩ : ∃ y, y = w0.alloc (Obj.cells #[.slice Aa na ca, .slice Ab nb cb] 26) := ⟨_, rfl⟩
  have HS0 : Hid (w0.heap.size = w.heap.size + 1) := Lib.hid (by rw [hw0, World.size_alloc])
  have HG1 : Hid (w0.grownBy w1 none) := Lib.hid (by rw [hw1]; exact World.grownBy_alloc _ _ none)
  have HTL : Hid (Sl (encS (encS encP)) TT w1 (.slice (some ⟨w.heap.size + 1, 0, none⟩) 2 2) [a, b]) := Lib.hid (by
    rw [hw1, ← HS0.out]
    exact Sl.build [[.slice Aa na ca], [.slice Ab nb cb]] rfl ⟨⟨_, rfl, (HA.out.kept HG0.out).more fun _ _ _ => trivial⟩, ⟨_, rfl, (HB.out.kept HG0.out).more fun _ _ _ => trivial⟩, trivial⟩ rfl (by decide))
  have HCL := Lib.hid (HLA.out w1 _ _ HTL.out ((HM.out.kept (HG0.out.trans HG1.out)).more fun _ _ _ => trivial))
  have HGA : Hid (w.grownBy w1 none) := Lib.hid (HG0.out.trans HG1.out)
  have HBA : Hid (Bk w1 w.heap.size 24 p.cells) := Lib.hid (HB0.out.grown HG1.out (by simp))
  rw [hw0] at hw1
  clear hm ha hb hx hy hp gm ga gb hnm hna hnb hw0 HTL HLA HS0 HG1 HG0 HB0
  go_enter Try.func3, Try.ntmps3
  go_wp2_with fail
  rw [← hw1]
  clear hw1
  refine HCL.out.mono ?_
  rintro e w2 ⟨B, rfl, hB, rfl⟩
  have HBF := Lib.hid hB
  clear hB HCL
  cases B with
  | true =>
    go_wp2
    go_ret
    exact ⟨rfl, HGA.out⟩
  | false =>
    have HOK : Hid (PackOk m a b) := Lib.hid (cnt_ok m a b (HBF.out rfl))
    clear HBF
    obtain ⟨vl, l, hvl, hls, hl9⟩ : ∃ (vl : Value) (l : List (Int × Int)), ((na = 0 ∧ vl = .slice none 0 0) ∨ ∃ g o, 0 < na ∧ Aa = some ⟨g, o, none⟩ ∧ w1.cell? ⟨g, o, none⟩ = some vl) ∧ Sl encP TT w1 vl l ∧ l.length ≤ 300 := by
      rcases Nat.eq_zero_or_pos na with h | h
      · exact ⟨_, [], Or.inl ⟨h, rfl⟩, Sl.nil _ _ _, by simp⟩
      · have h0 : 0 < a.length := by rw [← HN.out.2.1]; exact h
        obtain ⟨g, o, c', u, e, _, _, hcu, hsu⟩ := (HA.out.kept HGA.out).atS h0
        injection e with e1 e2 e3
        exact ⟨u, a[0], Or.inr ⟨g, o, h, e1, hcu⟩, hsu.more fun _ _ _ => trivial, HOK.out.2.2.2.2.2.2.1 _ (List.getElem_mem h0)⟩
    obtain ⟨vc, cs, hvc, hcs, hc9, hc8⟩ : ∃ (vc : Value) (cs : List (List Int)), ((nm = 0 ∧ vc = .slice none 0 0) ∨ ∃ g o, 0 < nm ∧ Am = some ⟨g, o, none⟩ ∧ w1.cell? ⟨g, o, none⟩ = some vc) ∧ Sl (encS encU) TT w1 vc cs ∧ cs.length ≤ 300 ∧ ∀ r ∈ cs, r.length ≤ 300 := by
      rcases Nat.eq_zero_or_pos nm with h | h
      · exact ⟨_, [], Or.inl ⟨h, rfl⟩, Sl.nil _ _ _, by simp, by simp⟩
      · have h0 : 0 < m.length := by rw [← HN.out.1]; exact h
        obtain ⟨g, o, c', u, e, _, _, hcu, hsu⟩ := (HM.out.kept HGA.out).atS h0
        injection e with e1 e2 e3
        exact ⟨u, m[0], Or.inr ⟨g, o, h, e1, hcu⟩, hsu.more fun _ _ _ => trivial, HOK.out.2.1 _ (List.getElem_mem h0), fun r hr => HOK.out.2.2.2.1 r (List.mem_flatten.2 ⟨_, List.getElem_mem h0, hr⟩)⟩
    have HVC := Lib.hid hvc
    have HLS := Lib.hid hls
    have HCS := Lib.hid hcs
    have HL9 := Lib.hid (And.intro hl9 (And.intro hc9 hc8))
    have HLE : Hid (m.length ≤ 100000 ∧ (∀ l ∈ m, l.length ≤ 100000 ∧ ∀ c ∈ l, c.length ≤ 100000) ∧ a.length ≤ 1000 ∧ (∀ c ∈ a, c.length ≤ 1000) ∧ b.length ≤ 1000 ∧ (∀ c ∈ b, c.length ≤ 1000)) := Lib.hid (by
      obtain ⟨k1, k2, k3, k4, k5, k6, k7, k8, k9, k10, k11⟩ := HOK.out
      exact ⟨by omega, fun l hl => ⟨by have := k2 l hl; omega, fun c hc => by have := k4 c (List.mem_flatten.2 ⟨_, hl, hc⟩); omega⟩, by omega, fun c hc => by have := k7 c hc; omega, by omega, fun c hc => by have := k10 c hc; omega⟩)
    have HAT := Lib.hid (dat_any _ a x p.Q Y w1 (HA.out.kept HGA.out) HXY.out.1 HLE.out.2.2.1 HLE.out.2.2.2.1)
    have hpr := HBA.out.prule
    obtain ⟨Al, nl, cl, rfl⟩ := hls.shape
    obtain ⟨Ac, nc, cc, rfl⟩ := hcs.shape
    clear hls hcs hl9 hc9 hc8 hvc
    rcases hvl with ⟨hz, e⟩ | ⟨g, o, hz, e, hcl⟩
    · try (injection e with e1 e2 e3; subst e1 e2 e3)
      try subst e
      first | (have hzJ : (0 : Int) < (na : Int) := by omega) | (have hzJ : ¬ ((0 : Int) < (na : Int)) := by omega)
      clear hz
      go_wp2_with fail
      refine HAT.out.mono ?_
      rintro e w5 ⟨v5, rfl, hs5, hg5⟩
      obtain ⟨Au, nu, cu, rfl⟩ := hs5.shape
      have HGW : Hid (w1.grownBy w5.drew none) := Lib.hid (hg5.trans (grown_drewN' w5 1))
      have HGZ : Hid (w.grownBy w5.drew none) := Lib.hid (HGA.out.trans HGW.out)
      have HSU := Lib.hid (hs5.kept (grown_drewN' w5 1))
      have HPR : Hid (∀ W, w5.drew.grownBy W none → ∀ o, W.cell? ⟨w.heap.size, o, none⟩ = (#[.int .u64 p.P, .int .u64 p.Q, .int .u64 p.G, .int .u64 p.H, .int .i64 p.Nodes, .int .i64 p.N, .int .i64 p.T, .int .i64 p.K, .int .i64 p.D, .int .i64 p.R, .int .i64 p.M, .int .i64 p.X] : Array Value)[o]?) := Lib.hid (fun W hW => (HBA.out.grown (HGW.out.trans hW) (by simp)).prule)
      have HQ9 : Hid (U64 p.Q) := Lib.hid HXY.out.2.2.Q
      have HRA : Hid (∀ W, w5.drew.grownBy W none → Calls Try.prog 7 #[.slice Aa na ca, .int .u64 x, .int .u64 p.Q] W (Gives encP (fun g => W.heap.size ≤ g) W (a.map (atP p.Q x)))) := Lib.hid (fun W hW => rat18_any _ a x p.Q Y W (HA.out.kept (HGZ.out.trans hW)) HXY.out.1 HQ9.out (by have := HLE.out.2.2.1; omega) (fun c hc => by have := HLE.out.2.2.2.1 c hc; omega))
      have HSM : Hid (∀ W v, w5.drew.grownBy W none → Sl encP TT W v (a.map (atP p.Q x)) → Calls Try.prog 6 #[.slice Au nu cu, v] W (Quietly W (.bool true))) := Lib.hid (fun W v hW hv => same_eq _ v _ _ TT W (HSU.out.kept hW) hv)
      obtain ⟨B1, hB1⟩ : ∃ y, y = dfitsB p a (rowComsI p m x) := ⟨_, rfl⟩
      obtain ⟨B2, hB2⟩ : ∃ z, z = dfitsB p b (colComsI p m y) := ⟨_, rfl⟩
      obtain ⟨B3, hB3⟩ : ∃ z, z = fitsI p (rowComsI p m x) y l := ⟨_, rfl⟩
      obtain ⟨B4, hB4⟩ : ∃ z, z = fitsI p (rowComsI p m x) y (a.map (atP p.Q x)) := ⟨_, rfl⟩
      have HF1 : Hid (∀ W, w5.drew.grownBy W none → Calls Try.prog 8 #[p.v, .slice Am nm cm, .int .u64 x, .slice Aa na ca] W fun e w' => e = .returned (.bool B1) ∧ W.grownBy w' none) := Lib.hid (fun W hW => by rw [hB1]; exact drowFits_any p _ _ m x a X Y W HXY.out.2.2 (HM.out.kept (HGZ.out.trans hW)) HXY.out.1 (HA.out.kept (HGZ.out.trans hW)) HLE.out.1 HLE.out.2.1 HLE.out.2.2.1 HLE.out.2.2.2.1)
      have HF2 : Hid (∀ W, w5.drew.grownBy W none → Calls Try.prog 9 #[p.v, .slice Am nm cm, .int .u64 x, .slice Aa na ca] W fun e w' => e = .returned (.bool B1) ∧ W.grownBy w' none) := Lib.hid (fun W hW => by rw [hB1]; exact rrowFits_any p _ _ m x a X Y W HXY.out.2.2 (HM.out.kept (HGZ.out.trans hW)) HXY.out.1 (HA.out.kept (HGZ.out.trans hW)) HLE.out.1 HLE.out.2.1 HLE.out.2.2.1 HLE.out.2.2.2.1)
      have HF3 : Hid (∀ W, w5.drew.grownBy W none → Calls Try.prog 10 #[p.v, .slice Am nm cm, .int .u64 y, .slice Ab nb cb] W fun e w' => e = .returned (.bool B2) ∧ W.grownBy w' none) := Lib.hid (fun W hW => by rw [hB2]; exact dcolFits_any p _ _ m y b X Z W HXY.out.2.2 (HM.out.kept (HGZ.out.trans hW)) HXY.out.2.1 (HB.out.kept (HGZ.out.trans hW)) HLE.out.1 HLE.out.2.1 HLE.out.2.2.2.2.1 HLE.out.2.2.2.2.2)
      have HF4 : Hid (∀ W, w5.drew.grownBy W none → Calls Try.prog 11 #[p.v, .slice Am nm cm, .int .u64 y, .slice Ab nb cb] W fun e w' => e = .returned (.bool B2) ∧ W.grownBy w' none) := Lib.hid (fun W hW => by rw [hB2]; exact rcolFits_any p _ _ m y b X Z W HXY.out.2.2 (HM.out.kept (HGZ.out.trans hW)) HXY.out.2.1 (HB.out.kept (HGZ.out.trans hW)) HLE.out.1 HLE.out.2.1 HLE.out.2.2.2.2.1 HLE.out.2.2.2.2.2)
      have HL100 : Hid (l.length ≤ 100000 ∧ (a.map (atP p.Q x)).length ≤ 100000) := Lib.hid ⟨by have := HL9.out.1; omega, by rw [List.length_map]; have := HLE.out.2.2.1; omega⟩
      have HF5 := Lib.hid (fun W (hW : w5.drew.grownBy W none) => dmeets_any p _ _ m x y l X TT W HXY.out.2.2 (HM.out.kept (HGZ.out.trans hW)) HXY.out.1 HXY.out.2.1 (HLS.out.kept (HGW.out.trans hW)) HLE.out.1 HLE.out.2.1 HL100.out.1)
      have HF6 := Lib.hid (fun W (hW : w5.drew.grownBy W none) => rmeets_any p _ _ m x y l X TT W HXY.out.2.2 (HM.out.kept (HGZ.out.trans hW)) HXY.out.1 HXY.out.2.1 (HLS.out.kept (HGW.out.trans hW)) HLE.out.1 HLE.out.2.1 HL100.out.1)
      have HF7 := Lib.hid (fun W (hW : w5.drew.grownBy W none) => dmeets_any p _ _ m x y (a.map (atP p.Q x)) X _ W HXY.out.2.2 (HM.out.kept (HGZ.out.trans hW)) HXY.out.1 HXY.out.2.1 (HSU.out.kept hW) HLE.out.1 HLE.out.2.1 HL100.out.2)
      have HF8 := Lib.hid (fun W (hW : w5.drew.grownBy W none) => rmeets_any p _ _ m x y (a.map (atP p.Q x)) X _ W HXY.out.2.2 (HM.out.kept (HGZ.out.trans hW)) HXY.out.1 HXY.out.2.1 (HSU.out.kept hW) HLE.out.1 HLE.out.2.1 HL100.out.2)
      rw [← hB3] at HF5 HF6
      rw [← hB4] at HF7 HF8
      have HPK := Lib.hid (fun W (hW : w5.drew.grownBy W none) => dpackG_any _ _ _ m a b X Y Z W (HM.out.kept (HGZ.out.trans hW)) (HA.out.kept (HGZ.out.trans hW)) (HB.out.kept (HGZ.out.trans hW)) HOK.out)
      have HPL := Lib.hid (fun W (hW : w5.drew.grownBy W none) => rpack_any _ _ _ m a b X Y Z W (HM.out.kept (HGZ.out.trans hW)) (HA.out.kept (HGZ.out.trans hW)) (HB.out.kept (HGZ.out.trans hW)) HOK.out)
      have HP1 := Lib.hid (fun W (hW : w5.drew.grownBy W none) => dpairs_any _ l TT W (HLS.out.kept (HGW.out.trans hW)) (by have := HL9.out.1; omega))
      have HP2 := Lib.hid (fun W (hW : w5.drew.grownBy W none) => rprs_any _ l TT W (HLS.out.kept (HGW.out.trans hW)) (by have := HL9.out.1; omega))
      have HC1 := Lib.hid (fun W (hW : w5.drew.grownBy W none) => dflat_any _ cs TT W (HCS.out.kept (HGW.out.trans hW)) (by have := HL9.out.2.1; omega) (fun r hr => by have := HL9.out.2.2 r hr; omega))
      have HC2 := Lib.hid (fun W (hW : w5.drew.grownBy W none) => rflat_any _ cs TT W (HCS.out.kept (HGW.out.trans hW)) (by have := HL9.out.2.1; omega) (fun r hr => by have := HL9.out.2.2 r hr; omega))
      have HVD : Hid (∀ W, w5.drew.grownBy W none → (nm = 0 ∧ .slice Ac nc cc = Value.slice none 0 0) ∨ ∃ g o, 0 < nm ∧ Am = some ⟨g, o, none⟩ ∧ W.cell? ⟨g, o, none⟩ = some (.slice Ac nc cc)) := Lib.hid (fun W hW => by
        rcases HVC.out with h | ⟨g, o, h1, h2, h3⟩
        · exact Or.inl h
        · exact Or.inr ⟨g, o, h1, h2, cellK h3 (HGW.out.trans hW) (by simp)⟩)
      clear hB1 hB2 hB3 hB4 hs5 hg5 hpr HSU HLE HL9 HL100 HOK HXY HQ9 HGW HGA HBA HM HA HB HN HVC HLS HCS HAT ja jm
      try clear hcl
      obtain ⟨AT, hAT⟩ : ∃ z, z = a.map (atP p.Q x) := ⟨_, rfl⟩
      rw [← hAT] at HRA HSM
      clear hAT
      go_upto_region 7 with (fail)
      refine wp_region_mono 64 (by kernel_rfl) (by kernel_rfl) ?_
      -- op 0 (slot 32): move
      refine MonoR.step (Pv.eq (.slice Au nu cu)) [] (by kernel_rfl) (fun w' hw' => ?_) ?_
      · refine ask_do rfl fun K hK => ?_
        go_simp
        exact hK _ _ rfl rfl (World.grownBy.refl _ none)
      -- op 1 (slot 33): move
      refine MonoR.step (Pv.eq (.slice Aa na ca)) [] (by kernel_rfl) (fun w' hw' => ?_) ?_
      · refine ask_do rfl fun K hK => ?_
        go_simp
        exact hK _ _ rfl rfl (World.grownBy.refl _ none)
      -- op 2 (slot 34): move
      refine MonoR.step (Pv.eq (.int .u64 x)) [] (by kernel_rfl) (fun w' hw' => ?_) ?_
      · refine ask_do rfl fun K hK => ?_
        go_simp
        exact hK _ _ rfl rfl (World.grownBy.refl _ none)
      -- op 3 (slot 35): fieldAddr
      refine MonoR.step (Pv.eq (.pointer (some ⟨w.heap.size, 1, none⟩))) [] (by kernel_rfl) (fun w' hw' => ?_) ?_
      · refine ask_do rfl fun K hK => ?_
        go_simp
        exact hK _ _ rfl rfl (World.grownBy.refl _ none)
      -- op 4 (slot 36): load
      refine MonoR.step (Pv.eq (.int .u64 p.Q)) [(3, 35)] (by kernel_rfl) (fun w' hw' => ?_) ?_
      · intro x35 h35
        have e35 : x35 = .pointer (some ⟨w.heap.size, 1, none⟩) := h35
        clear h35
        subst e35
        refine ask_do rfl fun K hK => ?_
        have hp := HPR.out w' hw'
        go_simp
        exact hK _ _ rfl rfl (World.grownBy.refl _ none)
      -- op 5 (slot 37): call
      refine MonoR.step (Pv.sl (encP) TT AT) [(1, 33), (2, 34), (4, 36)] (by kernel_rfl) (fun w' hw' => ?_) ?_
      · intro x33 h33
        intro x34 h34
        intro x36 h36
        have e33 : x33 = .slice Aa na ca := h33
        clear h33
        subst e33
        have e34 : x34 = .int .u64 x := h34
        clear h34
        subst e34
        have e36 : x36 = .int .u64 p.Q := h36
        clear h36
        subst e36
        refine ask_do rfl fun K hK => ?_
        go_simp
        refine (HRA.out w' hw').mono ?_
        rintro e w3 ⟨v3, rfl, h3, hg⟩
        exact hK _ _ rfl (h3.more (fun _ _ _ => trivial)) hg
      -- op 6 (slot 38): call
      refine MonoR.step (Pv.eq (.bool true)) [(0, 32), (5, 37)] (by kernel_rfl) (fun w' hw' => ?_) ?_
      · intro x32 h32
        intro x37 h37
        have h37 : Sl (encP) TT w' x37 AT := h37
        obtain ⟨A37, c37, e37, k37, l37⟩ := h37.form
        have e37 : x37 = .slice A37 AT.length c37 := e37
        subst e37
        have e32 : x32 = .slice Au nu cu := h32
        clear h32
        subst e32
        refine ask_do rfl fun K hK => ?_
        go_simp
        refine (HSM.out w' _ hw' h37).mono ?_
        rintro e w3 ⟨rfl, n3, rfl⟩
        exact hK _ _ rfl rfl (grown_drewN' w' n3)
      -- op 7 (slot 39): unOp
      refine MonoR.step (Pv.eq (.bool false)) [(6, 38)] (by kernel_rfl) (fun w' hw' => ?_) ?_
      · intro x38 h38
        have e38 : x38 = .bool true := h38
        clear h38
        subst e38
        refine ask_do rfl fun K hK => ?_
        go_simp
        exact hK _ _ rfl rfl (World.grownBy.refl _ none)
      -- op 8 (slot 40): move
      refine MonoR.step (Pv.eq (.bool false)) [(7, 39)] (by kernel_rfl) (fun w' hw' => ?_) ?_
      · intro x39 h39
        have e39 : x39 = .bool false := h39
        clear h39
        subst e39
        refine ask_do rfl fun K hK => ?_
        go_simp
        exact hK _ _ rfl rfl (World.grownBy.refl _ none)
      -- op 9 (slot 41): load [(8, 'false')]
      refine MonoR.step (Pv.eq (p.v)) [(8, 40)] (by kernel_rfl) (fun w' hw' => ?_) ?_
      · intro x40 h40
        have e40 : x40 = .bool false := h40
        clear h40
        subst e40
        refine ask_do (by kernel_rfl) fun K hK => ?_
        have hp := HPR.out w' hw'
        go_simp
        exact hK _ _ rfl rfl (World.grownBy.refl _ none)
      -- op 10 (slot 42): move [(8, 'false')]
      refine MonoR.step (Pv.eq (.slice Am nm cm)) [(8, 40)] (by kernel_rfl) (fun w' hw' => ?_) ?_
      · intro x40 h40
        have e40 : x40 = .bool false := h40
        clear h40
        subst e40
        refine ask_do (by kernel_rfl) fun K hK => ?_
        go_simp
        exact hK _ _ rfl rfl (World.grownBy.refl _ none)
      -- op 11 (slot 43): move [(8, 'false')]
      refine MonoR.step (Pv.eq (.int .u64 x)) [(8, 40)] (by kernel_rfl) (fun w' hw' => ?_) ?_
      · intro x40 h40
        have e40 : x40 = .bool false := h40
        clear h40
        subst e40
        refine ask_do (by kernel_rfl) fun K hK => ?_
        go_simp
        exact hK _ _ rfl rfl (World.grownBy.refl _ none)
      -- op 12 (slot 44): move [(8, 'false')]
      refine MonoR.step (Pv.eq (.slice Aa na ca)) [(8, 40)] (by kernel_rfl) (fun w' hw' => ?_) ?_
      · intro x40 h40
        have e40 : x40 = .bool false := h40
        clear h40
        subst e40
        refine ask_do (by kernel_rfl) fun K hK => ?_
        go_simp
        exact hK _ _ rfl rfl (World.grownBy.refl _ none)
      -- op 13 (slot 45): call [(8, 'false')]
      refine MonoR.step (Pv.eq (.bool B1)) [(8, 40), (9, 41), (10, 42), (11, 43), (12, 44)] (by kernel_rfl) (fun w' hw' => ?_) ?_
      · intro x40 h40
        intro x41 h41
        intro x42 h42
        intro x43 h43
        intro x44 h44
        have e40 : x40 = .bool false := h40
        clear h40
        subst e40
        have e41 : x41 = p.v := h41
        clear h41
        subst e41
        have e42 : x42 = .slice Am nm cm := h42
        clear h42
        subst e42
        have e43 : x43 = .int .u64 x := h43
        clear h43
        subst e43
        have e44 : x44 = .slice Aa na ca := h44
        clear h44
        subst e44
        refine ask_do (by kernel_rfl) fun K hK => ?_
        go_simp
        refine (HF1.out w' hw').mono ?_
        rintro e w3 ⟨rfl, hg⟩
        exact hK _ _ rfl rfl hg
      -- op 14 (slot 46): load [(8, 'false')]
      refine MonoR.step (Pv.eq (p.v)) [(8, 40)] (by kernel_rfl) (fun w' hw' => ?_) ?_
      · intro x40 h40
        have e40 : x40 = .bool false := h40
        clear h40
        subst e40
        refine ask_do (by kernel_rfl) fun K hK => ?_
        have hp := HPR.out w' hw'
        go_simp
        exact hK _ _ rfl rfl (World.grownBy.refl _ none)
      -- op 15 (slot 47): move [(8, 'false')]
      refine MonoR.step (Pv.eq (.slice Am nm cm)) [(8, 40)] (by kernel_rfl) (fun w' hw' => ?_) ?_
      · intro x40 h40
        have e40 : x40 = .bool false := h40
        clear h40
        subst e40
        refine ask_do (by kernel_rfl) fun K hK => ?_
        go_simp
        exact hK _ _ rfl rfl (World.grownBy.refl _ none)
      -- op 16 (slot 48): move [(8, 'false')]
      refine MonoR.step (Pv.eq (.int .u64 x)) [(8, 40)] (by kernel_rfl) (fun w' hw' => ?_) ?_
      · intro x40 h40
        have e40 : x40 = .bool false := h40
        clear h40
        subst e40
        refine ask_do (by kernel_rfl) fun K hK => ?_
        go_simp
        exact hK _ _ rfl rfl (World.grownBy.refl _ none)
      -- op 17 (slot 49): move [(8, 'false')]
      refine MonoR.step (Pv.eq (.slice Aa na ca)) [(8, 40)] (by kernel_rfl) (fun w' hw' => ?_) ?_
      · intro x40 h40
        have e40 : x40 = .bool false := h40
        clear h40
        subst e40
        refine ask_do (by kernel_rfl) fun K hK => ?_
        go_simp
        exact hK _ _ rfl rfl (World.grownBy.refl _ none)
      -- op 18 (slot 50): call [(8, 'false')]
      refine MonoR.step (Pv.eq (.bool B1)) [(8, 40), (14, 46), (15, 47), (16, 48), (17, 49)] (by kernel_rfl) (fun w' hw' => ?_) ?_
      · intro x40 h40
        intro x46 h46
        intro x47 h47
        intro x48 h48
        intro x49 h49
        have e40 : x40 = .bool false := h40
        clear h40
        subst e40
        have e46 : x46 = p.v := h46
        clear h46
        subst e46
        have e47 : x47 = .slice Am nm cm := h47
        clear h47
        subst e47
        have e48 : x48 = .int .u64 x := h48
        clear h48
        subst e48
        have e49 : x49 = .slice Aa na ca := h49
        clear h49
        subst e49
        refine ask_do (by kernel_rfl) fun K hK => ?_
        go_simp
        refine (HF2.out w' hw').mono ?_
        rintro e w3 ⟨rfl, hg⟩
        exact hK _ _ rfl rfl hg
      -- op 19 (slot 51): binOp [(8, 'false')]
      refine MonoR.step (Pv.eq (.bool false)) [(8, 40), (13, 45), (18, 50)] (by kernel_rfl) (fun w' hw' => ?_) ?_
      · intro x40 h40
        intro x45 h45
        intro x50 h50
        have e40 : x40 = .bool false := h40
        clear h40
        subst e40
        have e45 : x45 = .bool B1 := h45
        clear h45
        subst e45
        have e50 : x50 = .bool B1 := h50
        clear h50
        subst e50
        refine ask_do (by kernel_rfl) fun K hK => ?_
        go_simp
        exact hK _ _ rfl rfl (World.grownBy.refl _ none)
      -- op 20 (slot 52): pick
      refine MonoR.step (Pv.eq (.bool false)) [(8, 40), (19, 51)] (by kernel_rfl) (fun w' hw' => ?_) ?_
      · intro x40 h40
        intro x51 h51
        have e40 : x40 = .bool false := h40
        clear h40
        subst e40
        have e51 : x51 = .bool false := h51
        clear h51
        subst e51
        refine ask_do rfl fun K hK => ?_
        go_simp
        exact hK _ _ rfl rfl (World.grownBy.refl _ none)
      -- op 21 (slot 53): move
      refine MonoR.step (Pv.eq (.bool false)) [(20, 52)] (by kernel_rfl) (fun w' hw' => ?_) ?_
      · intro x52 h52
        have e52 : x52 = .bool false := h52
        clear h52
        subst e52
        refine ask_do rfl fun K hK => ?_
        go_simp
        exact hK _ _ rfl rfl (World.grownBy.refl _ none)
      -- op 22 (slot 54): load [(21, 'false')]
      refine MonoR.step (Pv.eq (p.v)) [(21, 53)] (by kernel_rfl) (fun w' hw' => ?_) ?_
      · intro x53 h53
        have e53 : x53 = .bool false := h53
        clear h53
        subst e53
        refine ask_do (by kernel_rfl) fun K hK => ?_
        have hp := HPR.out w' hw'
        go_simp
        exact hK _ _ rfl rfl (World.grownBy.refl _ none)
      -- op 23 (slot 55): move [(21, 'false')]
      refine MonoR.step (Pv.eq (.slice Am nm cm)) [(21, 53)] (by kernel_rfl) (fun w' hw' => ?_) ?_
      · intro x53 h53
        have e53 : x53 = .bool false := h53
        clear h53
        subst e53
        refine ask_do (by kernel_rfl) fun K hK => ?_
        go_simp
        exact hK _ _ rfl rfl (World.grownBy.refl _ none)
      -- op 24 (slot 56): move [(21, 'false')]
      refine MonoR.step (Pv.eq (.int .u64 y)) [(21, 53)] (by kernel_rfl) (fun w' hw' => ?_) ?_
      · intro x53 h53
        have e53 : x53 = .bool false := h53
        clear h53
        subst e53
        refine ask_do (by kernel_rfl) fun K hK => ?_
        go_simp
        exact hK _ _ rfl rfl (World.grownBy.refl _ none)
      -- op 25 (slot 57): move [(21, 'false')]
      refine MonoR.step (Pv.eq (.slice Ab nb cb)) [(21, 53)] (by kernel_rfl) (fun w' hw' => ?_) ?_
      · intro x53 h53
        have e53 : x53 = .bool false := h53
        clear h53
        subst e53
        refine ask_do (by kernel_rfl) fun K hK => ?_
        go_simp
        exact hK _ _ rfl rfl (World.grownBy.refl _ none)
      -- op 26 (slot 58): call [(21, 'false')]
      refine MonoR.step (Pv.eq (.bool B2)) [(21, 53), (22, 54), (23, 55), (24, 56), (25, 57)] (by kernel_rfl) (fun w' hw' => ?_) ?_
      · intro x53 h53
        intro x54 h54
        intro x55 h55
        intro x56 h56
        intro x57 h57
        have e53 : x53 = .bool false := h53
        clear h53
        subst e53
        have e54 : x54 = p.v := h54
        clear h54
        subst e54
        have e55 : x55 = .slice Am nm cm := h55
        clear h55
        subst e55
        have e56 : x56 = .int .u64 y := h56
        clear h56
        subst e56
        have e57 : x57 = .slice Ab nb cb := h57
        clear h57
        subst e57
        refine ask_do (by kernel_rfl) fun K hK => ?_
        go_simp
        refine (HF3.out w' hw').mono ?_
        rintro e w3 ⟨rfl, hg⟩
        exact hK _ _ rfl rfl hg
      -- op 27 (slot 59): load [(21, 'false')]
      refine MonoR.step (Pv.eq (p.v)) [(21, 53)] (by kernel_rfl) (fun w' hw' => ?_) ?_
      · intro x53 h53
        have e53 : x53 = .bool false := h53
        clear h53
        subst e53
        refine ask_do (by kernel_rfl) fun K hK => ?_
        have hp := HPR.out w' hw'
        go_simp
        exact hK _ _ rfl rfl (World.grownBy.refl _ none)
      -- op 28 (slot 60): move [(21, 'false')]
      refine MonoR.step (Pv.eq (.slice Am nm cm)) [(21, 53)] (by kernel_rfl) (fun w' hw' => ?_) ?_
      · intro x53 h53
        have e53 : x53 = .bool false := h53
        clear h53
        subst e53
        refine ask_do (by kernel_rfl) fun K hK => ?_
        go_simp
        exact hK _ _ rfl rfl (World.grownBy.refl _ none)
      -- op 29 (slot 61): move [(21, 'false')]
      refine MonoR.step (Pv.eq (.int .u64 y)) [(21, 53)] (by kernel_rfl) (fun w' hw' => ?_) ?_
      · intro x53 h53
        have e53 : x53 = .bool false := h53
        clear h53
        subst e53
        refine ask_do (by kernel_rfl) fun K hK => ?_
        go_simp
        exact hK _ _ rfl rfl (World.grownBy.refl _ none)
      -- op 30 (slot 62): move [(21, 'false')]
      refine MonoR.step (Pv.eq (.slice Ab nb cb)) [(21, 53)] (by kernel_rfl) (fun w' hw' => ?_) ?_
      · intro x53 h53
        have e53 : x53 = .bool false := h53
        clear h53
        subst e53
        refine ask_do (by kernel_rfl) fun K hK => ?_
        go_simp
        exact hK _ _ rfl rfl (World.grownBy.refl _ none)
      -- op 31 (slot 63): call [(21, 'false')]
      refine MonoR.step (Pv.eq (.bool B2)) [(21, 53), (27, 59), (28, 60), (29, 61), (30, 62)] (by kernel_rfl) (fun w' hw' => ?_) ?_
      · intro x53 h53
        intro x59 h59
        intro x60 h60
        intro x61 h61
        intro x62 h62
        have e53 : x53 = .bool false := h53
        clear h53
        subst e53
        have e59 : x59 = p.v := h59
        clear h59
        subst e59
        have e60 : x60 = .slice Am nm cm := h60
        clear h60
        subst e60
        have e61 : x61 = .int .u64 y := h61
        clear h61
        subst e61
        have e62 : x62 = .slice Ab nb cb := h62
        clear h62
        subst e62
        refine ask_do (by kernel_rfl) fun K hK => ?_
        go_simp
        refine (HF4.out w' hw').mono ?_
        rintro e w3 ⟨rfl, hg⟩
        exact hK _ _ rfl rfl hg
      -- op 32 (slot 64): binOp [(21, 'false')]
      refine MonoR.step (Pv.eq (.bool false)) [(21, 53), (26, 58), (31, 63)] (by kernel_rfl) (fun w' hw' => ?_) ?_
      · intro x53 h53
        intro x58 h58
        intro x63 h63
        have e53 : x53 = .bool false := h53
        clear h53
        subst e53
        have e58 : x58 = .bool B2 := h58
        clear h58
        subst e58
        have e63 : x63 = .bool B2 := h63
        clear h63
        subst e63
        refine ask_do (by kernel_rfl) fun K hK => ?_
        go_simp
        exact hK _ _ rfl rfl (World.grownBy.refl _ none)
      -- op 33 (slot 65): pick
      refine MonoR.step (Pv.eq (.bool false)) [(21, 53), (32, 64)] (by kernel_rfl) (fun w' hw' => ?_) ?_
      · intro x53 h53
        intro x64 h64
        have e53 : x53 = .bool false := h53
        clear h53
        subst e53
        have e64 : x64 = .bool false := h64
        clear h64
        subst e64
        refine ask_do rfl fun K hK => ?_
        go_simp
        exact hK _ _ rfl rfl (World.grownBy.refl _ none)
      -- op 34 (slot 66): move
      refine MonoR.step (Pv.eq (.bool false)) [(33, 65)] (by kernel_rfl) (fun w' hw' => ?_) ?_
      · intro x65 h65
        have e65 : x65 = .bool false := h65
        clear h65
        subst e65
        refine ask_do rfl fun K hK => ?_
        go_simp
        exact hK _ _ rfl rfl (World.grownBy.refl _ none)
      -- op 35 (slot 67): load [(34, 'false')]
      refine MonoR.step (Pv.eq (p.v)) [(34, 66)] (by kernel_rfl) (fun w' hw' => ?_) ?_
      · intro x66 h66
        have e66 : x66 = .bool false := h66
        clear h66
        subst e66
        refine ask_do (by kernel_rfl) fun K hK => ?_
        have hp := HPR.out w' hw'
        go_simp
        exact hK _ _ rfl rfl (World.grownBy.refl _ none)
      -- op 36 (slot 68): move [(34, 'false')]
      refine MonoR.step (Pv.eq (.slice Am nm cm)) [(34, 66)] (by kernel_rfl) (fun w' hw' => ?_) ?_
      · intro x66 h66
        have e66 : x66 = .bool false := h66
        clear h66
        subst e66
        refine ask_do (by kernel_rfl) fun K hK => ?_
        go_simp
        exact hK _ _ rfl rfl (World.grownBy.refl _ none)
      -- op 37 (slot 69): move [(34, 'false')]
      refine MonoR.step (Pv.eq (.int .u64 x)) [(34, 66)] (by kernel_rfl) (fun w' hw' => ?_) ?_
      · intro x66 h66
        have e66 : x66 = .bool false := h66
        clear h66
        subst e66
        refine ask_do (by kernel_rfl) fun K hK => ?_
        go_simp
        exact hK _ _ rfl rfl (World.grownBy.refl _ none)
      -- op 38 (slot 70): move [(34, 'false')]
      refine MonoR.step (Pv.eq (.int .u64 y)) [(34, 66)] (by kernel_rfl) (fun w' hw' => ?_) ?_
      · intro x66 h66
        have e66 : x66 = .bool false := h66
        clear h66
        subst e66
        refine ask_do (by kernel_rfl) fun K hK => ?_
        go_simp
        exact hK _ _ rfl rfl (World.grownBy.refl _ none)
      -- op 39 (slot 71): move [(34, 'false')]
      refine MonoR.step (Pv.eq (.slice none 0 0)) [(34, 66)] (by kernel_rfl) (fun w' hw' => ?_) ?_
      · intro x66 h66
        have e66 : x66 = .bool false := h66
        clear h66
        subst e66
        refine ask_do (by kernel_rfl) fun K hK => ?_
        go_simp
        exact hK _ _ rfl rfl (World.grownBy.refl _ none)
      -- op 40 (slot 72): call [(34, 'false')]
      refine MonoR.step (Pv.eq (.bool B3)) [(34, 66), (35, 67), (36, 68), (37, 69), (38, 70), (39, 71)] (by kernel_rfl) (fun w' hw' => ?_) ?_
      · intro x66 h66
        intro x67 h67
        intro x68 h68
        intro x69 h69
        intro x70 h70
        intro x71 h71
        have e66 : x66 = .bool false := h66
        clear h66
        subst e66
        have e67 : x67 = p.v := h67
        clear h67
        subst e67
        have e68 : x68 = .slice Am nm cm := h68
        clear h68
        subst e68
        have e69 : x69 = .int .u64 x := h69
        clear h69
        subst e69
        have e70 : x70 = .int .u64 y := h70
        clear h70
        subst e70
        have e71 : x71 = .slice none 0 0 := h71
        clear h71
        subst e71
        refine ask_do (by kernel_rfl) fun K hK => ?_
        go_simp
        refine (HF5.out w' hw').mono ?_
        rintro e w3 ⟨rfl, hg⟩
        exact hK _ _ rfl rfl hg
      -- op 41 (slot 73): load [(34, 'false')]
      refine MonoR.step (Pv.eq (p.v)) [(34, 66)] (by kernel_rfl) (fun w' hw' => ?_) ?_
      · intro x66 h66
        have e66 : x66 = .bool false := h66
        clear h66
        subst e66
        refine ask_do (by kernel_rfl) fun K hK => ?_
        have hp := HPR.out w' hw'
        go_simp
        exact hK _ _ rfl rfl (World.grownBy.refl _ none)
      -- op 42 (slot 74): move [(34, 'false')]
      refine MonoR.step (Pv.eq (.slice Am nm cm)) [(34, 66)] (by kernel_rfl) (fun w' hw' => ?_) ?_
      · intro x66 h66
        have e66 : x66 = .bool false := h66
        clear h66
        subst e66
        refine ask_do (by kernel_rfl) fun K hK => ?_
        go_simp
        exact hK _ _ rfl rfl (World.grownBy.refl _ none)
      -- op 43 (slot 75): move [(34, 'false')]
      refine MonoR.step (Pv.eq (.int .u64 x)) [(34, 66)] (by kernel_rfl) (fun w' hw' => ?_) ?_
      · intro x66 h66
        have e66 : x66 = .bool false := h66
        clear h66
        subst e66
        refine ask_do (by kernel_rfl) fun K hK => ?_
        go_simp
        exact hK _ _ rfl rfl (World.grownBy.refl _ none)
      -- op 44 (slot 76): move [(34, 'false')]
      refine MonoR.step (Pv.eq (.int .u64 y)) [(34, 66)] (by kernel_rfl) (fun w' hw' => ?_) ?_
      · intro x66 h66
        have e66 : x66 = .bool false := h66
        clear h66
        subst e66
        refine ask_do (by kernel_rfl) fun K hK => ?_
        go_simp
        exact hK _ _ rfl rfl (World.grownBy.refl _ none)
      -- op 45 (slot 77): move [(34, 'false')]
      refine MonoR.step (Pv.eq (.slice none 0 0)) [(34, 66)] (by kernel_rfl) (fun w' hw' => ?_) ?_
      · intro x66 h66
        have e66 : x66 = .bool false := h66
        clear h66
        subst e66
        refine ask_do (by kernel_rfl) fun K hK => ?_
        go_simp
        exact hK _ _ rfl rfl (World.grownBy.refl _ none)
      -- op 46 (slot 78): call [(34, 'false')]
      refine MonoR.step (Pv.eq (.bool B3)) [(34, 66), (41, 73), (42, 74), (43, 75), (44, 76), (45, 77)] (by kernel_rfl) (fun w' hw' => ?_) ?_
      · intro x66 h66
        intro x73 h73
        intro x74 h74
        intro x75 h75
        intro x76 h76
        intro x77 h77
        have e66 : x66 = .bool false := h66
        clear h66
        subst e66
        have e73 : x73 = p.v := h73
        clear h73
        subst e73
        have e74 : x74 = .slice Am nm cm := h74
        clear h74
        subst e74
        have e75 : x75 = .int .u64 x := h75
        clear h75
        subst e75
        have e76 : x76 = .int .u64 y := h76
        clear h76
        subst e76
        have e77 : x77 = .slice none 0 0 := h77
        clear h77
        subst e77
        refine ask_do (by kernel_rfl) fun K hK => ?_
        go_simp
        refine (HF6.out w' hw').mono ?_
        rintro e w3 ⟨rfl, hg⟩
        exact hK _ _ rfl rfl hg
      -- op 47 (slot 79): binOp [(34, 'false')]
      refine MonoR.step (Pv.eq (.bool false)) [(34, 66), (40, 72), (46, 78)] (by kernel_rfl) (fun w' hw' => ?_) ?_
      · intro x66 h66
        intro x72 h72
        intro x78 h78
        have e66 : x66 = .bool false := h66
        clear h66
        subst e66
        have e72 : x72 = .bool B3 := h72
        clear h72
        subst e72
        have e78 : x78 = .bool B3 := h78
        clear h78
        subst e78
        refine ask_do (by kernel_rfl) fun K hK => ?_
        go_simp
        exact hK _ _ rfl rfl (World.grownBy.refl _ none)
      -- op 48 (slot 80): pick
      refine MonoR.step (Pv.eq (.bool false)) [(34, 66), (47, 79)] (by kernel_rfl) (fun w' hw' => ?_) ?_
      · intro x66 h66
        intro x79 h79
        have e66 : x66 = .bool false := h66
        clear h66
        subst e66
        have e79 : x79 = .bool false := h79
        clear h79
        subst e79
        refine ask_do rfl fun K hK => ?_
        go_simp
        exact hK _ _ rfl rfl (World.grownBy.refl _ none)
      -- op 49 (slot 81): move
      refine MonoR.step (Pv.eq (.bool false)) [(48, 80)] (by kernel_rfl) (fun w' hw' => ?_) ?_
      · intro x80 h80
        have e80 : x80 = .bool false := h80
        clear h80
        subst e80
        refine ask_do rfl fun K hK => ?_
        go_simp
        exact hK _ _ rfl rfl (World.grownBy.refl _ none)
      -- op 50 (slot 82): load [(49, 'false')]
      refine MonoR.step (Pv.eq (p.v)) [(49, 81)] (by kernel_rfl) (fun w' hw' => ?_) ?_
      · intro x81 h81
        have e81 : x81 = .bool false := h81
        clear h81
        subst e81
        refine ask_do (by kernel_rfl) fun K hK => ?_
        have hp := HPR.out w' hw'
        go_simp
        exact hK _ _ rfl rfl (World.grownBy.refl _ none)
      -- op 51 (slot 83): move [(49, 'false')]
      refine MonoR.step (Pv.eq (.slice Am nm cm)) [(49, 81)] (by kernel_rfl) (fun w' hw' => ?_) ?_
      · intro x81 h81
        have e81 : x81 = .bool false := h81
        clear h81
        subst e81
        refine ask_do (by kernel_rfl) fun K hK => ?_
        go_simp
        exact hK _ _ rfl rfl (World.grownBy.refl _ none)
      -- op 52 (slot 84): move [(49, 'false')]
      refine MonoR.step (Pv.eq (.int .u64 x)) [(49, 81)] (by kernel_rfl) (fun w' hw' => ?_) ?_
      · intro x81 h81
        have e81 : x81 = .bool false := h81
        clear h81
        subst e81
        refine ask_do (by kernel_rfl) fun K hK => ?_
        go_simp
        exact hK _ _ rfl rfl (World.grownBy.refl _ none)
      -- op 53 (slot 85): move [(49, 'false')]
      refine MonoR.step (Pv.eq (.int .u64 y)) [(49, 81)] (by kernel_rfl) (fun w' hw' => ?_) ?_
      · intro x81 h81
        have e81 : x81 = .bool false := h81
        clear h81
        subst e81
        refine ask_do (by kernel_rfl) fun K hK => ?_
        go_simp
        exact hK _ _ rfl rfl (World.grownBy.refl _ none)
      -- op 54 (slot 86): move [(49, 'false')]
      refine MonoR.step (Pv.eq (.slice Au nu cu)) [(49, 81)] (by kernel_rfl) (fun w' hw' => ?_) ?_
      · intro x81 h81
        have e81 : x81 = .bool false := h81
        clear h81
        subst e81
        refine ask_do (by kernel_rfl) fun K hK => ?_
        go_simp
        exact hK _ _ rfl rfl (World.grownBy.refl _ none)
      -- op 55 (slot 87): call [(49, 'false')]
      refine MonoR.step (Pv.eq (.bool B4)) [(49, 81), (50, 82), (51, 83), (52, 84), (53, 85), (54, 86)] (by kernel_rfl) (fun w' hw' => ?_) ?_
      · intro x81 h81
        intro x82 h82
        intro x83 h83
        intro x84 h84
        intro x85 h85
        intro x86 h86
        have e81 : x81 = .bool false := h81
        clear h81
        subst e81
        have e82 : x82 = p.v := h82
        clear h82
        subst e82
        have e83 : x83 = .slice Am nm cm := h83
        clear h83
        subst e83
        have e84 : x84 = .int .u64 x := h84
        clear h84
        subst e84
        have e85 : x85 = .int .u64 y := h85
        clear h85
        subst e85
        have e86 : x86 = .slice Au nu cu := h86
        clear h86
        subst e86
        refine ask_do (by kernel_rfl) fun K hK => ?_
        go_simp
        refine (HF7.out w' hw').mono ?_
        rintro e w3 ⟨rfl, hg⟩
        exact hK _ _ rfl rfl hg
      -- op 56 (slot 88): load [(49, 'false')]
      refine MonoR.step (Pv.eq (p.v)) [(49, 81)] (by kernel_rfl) (fun w' hw' => ?_) ?_
      · intro x81 h81
        have e81 : x81 = .bool false := h81
        clear h81
        subst e81
        refine ask_do (by kernel_rfl) fun K hK => ?_
        have hp := HPR.out w' hw'
        go_simp
        exact hK _ _ rfl rfl (World.grownBy.refl _ none)
      -- op 57 (slot 89): move [(49, 'false')]
      refine MonoR.step (Pv.eq (.slice Am nm cm)) [(49, 81)] (by kernel_rfl) (fun w' hw' => ?_) ?_
      · intro x81 h81
        have e81 : x81 = .bool false := h81
        clear h81
        subst e81
        refine ask_do (by kernel_rfl) fun K hK => ?_
        go_simp
        exact hK _ _ rfl rfl (World.grownBy.refl _ none)
      -- op 58 (slot 90): move [(49, 'false')]
      refine MonoR.step (Pv.eq (.int .u64 x)) [(49, 81)] (by kernel_rfl) (fun w' hw' => ?_) ?_
      · intro x81 h81
        have e81 : x81 = .bool false := h81
        clear h81
        subst e81
        refine ask_do (by kernel_rfl) fun K hK => ?_
        go_simp
        exact hK _ _ rfl rfl (World.grownBy.refl _ none)
      -- op 59 (slot 91): move [(49, 'false')]
      refine MonoR.step (Pv.eq (.int .u64 y)) [(49, 81)] (by kernel_rfl) (fun w' hw' => ?_) ?_
      · intro x81 h81
        have e81 : x81 = .bool false := h81
        clear h81
        subst e81
        refine ask_do (by kernel_rfl) fun K hK => ?_
        go_simp
        exact hK _ _ rfl rfl (World.grownBy.refl _ none)
      -- op 60 (slot 92): move [(49, 'false')]
      refine MonoR.step (Pv.eq (.slice Au nu cu)) [(49, 81)] (by kernel_rfl) (fun w' hw' => ?_) ?_
      · intro x81 h81
        have e81 : x81 = .bool false := h81
        clear h81
        subst e81
        refine ask_do (by kernel_rfl) fun K hK => ?_
        go_simp
        exact hK _ _ rfl rfl (World.grownBy.refl _ none)
      -- op 61 (slot 93): call [(49, 'false')]
      refine MonoR.step (Pv.eq (.bool B4)) [(49, 81), (56, 88), (57, 89), (58, 90), (59, 91), (60, 92)] (by kernel_rfl) (fun w' hw' => ?_) ?_
      · intro x81 h81
        intro x88 h88
        intro x89 h89
        intro x90 h90
        intro x91 h91
        intro x92 h92
        have e81 : x81 = .bool false := h81
        clear h81
        subst e81
        have e88 : x88 = p.v := h88
        clear h88
        subst e88
        have e89 : x89 = .slice Am nm cm := h89
        clear h89
        subst e89
        have e90 : x90 = .int .u64 x := h90
        clear h90
        subst e90
        have e91 : x91 = .int .u64 y := h91
        clear h91
        subst e91
        have e92 : x92 = .slice Au nu cu := h92
        clear h92
        subst e92
        refine ask_do (by kernel_rfl) fun K hK => ?_
        go_simp
        refine (HF8.out w' hw').mono ?_
        rintro e w3 ⟨rfl, hg⟩
        exact hK _ _ rfl rfl hg
      -- op 62 (slot 94): binOp [(49, 'false')]
      refine MonoR.step (Pv.eq (.bool false)) [(49, 81), (55, 87), (61, 93)] (by kernel_rfl) (fun w' hw' => ?_) ?_
      · intro x81 h81
        intro x87 h87
        intro x93 h93
        have e81 : x81 = .bool false := h81
        clear h81
        subst e81
        have e87 : x87 = .bool B4 := h87
        clear h87
        subst e87
        have e93 : x93 = .bool B4 := h93
        clear h93
        subst e93
        refine ask_do (by kernel_rfl) fun K hK => ?_
        go_simp
        exact hK _ _ rfl rfl (World.grownBy.refl _ none)
      -- op 63 (slot 95): pick
      refine MonoR.step (Pv.eq (.bool false)) [(49, 81), (62, 94)] (by kernel_rfl) (fun w' hw' => ?_) ?_
      · intro x81 h81
        intro x94 h94
        have e81 : x81 = .bool false := h81
        clear h81
        subst e81
        have e94 : x94 = .bool false := h94
        clear h94
        subst e94
        refine ask_do rfl fun K hK => ?_
        go_simp
        exact hK _ _ rfl rfl (World.grownBy.refl _ none)
      
      intro w6 hw6
      intro y0 k0 y1 k1 y2 k2 y3 k3 y4 k4 y5 k5 y6 k6 y7 k7 y8 k8 y9 k9 y10 k10 y11 k11 y12 k12 y13 k13 y14 k14 y15 k15 y16 k16 y17 k17 y18 k18 y19 k19 y20 k20 y21 k21 y22 k22 y23 k23 y24 k24 y25 k25 y26 k26 y27 k27 y28 k28 y29 k29 y30 k30 y31 k31 y32 k32 y33 k33 y34 k34 y35 k35 y36 k36 y37 k37 y38 k38 y39 k39 y40 k40 y41 k41 y42 k42 y43 k43 y44 k44 y45 k45 y46 k46 y47 k47 y48 k48 y49 k49 y50 k50 y51 k51 y52 k52 y53 k53 y54 k54 y55 k55 y56 k56 y57 k57 y58 k58 y59 k59 y60 k60 y61 k61 y62 k62 y63 k63
      have e63 : y63 = .bool false := k63
      subst e63
      have HW6 := Lib.hid hw6
      clear k0 k1 k2 k3 k4 k5 k6 k7 k8 k9 k10 k11 k12 k13 k14 k15 k16 k17 k18 k19 k20 k21 k22 k23 k24 k25 k26 k27 k28 k29 k30 k31 k32 k33 k34 k35 k36 k37 k38 k39 k40 k41 k42 k43 k44 k45 k46 k47 k48 k49 k50 k51 k52 k53 k54 k55 k56 k57 k58 k59 k60 k61 k62 k63 hw6 HF1 HF2 HF3 HF4 HF5 HF6 HF7 HF8 HRA HSM HPR
      refine wpList_nil ?_
      simp only [Act.put, List.setIfInBounds_toArray, List.set_cons_zero, List.set_cons_succ]
      have hV6 := HVD.out w6 HW6.out
      clear HVD
      rcases hV6 with ⟨hy, e⟩ | ⟨gc, oc, hy, e, hccl⟩
      · try (injection e with e1 e2 e3; subst e1 e2 e3)
        try subst e
        first | (have hyJ : (0 : Int) < (nm : Int) := by omega) | (have hyJ : ¬ ((0 : Int) < (nm : Int)) := by omega)
        have hyI : (0 : Int) ≤ (nm : Int) := Int.natCast_nonneg nm
        clear hy
        go_wp2_with fail
        refine (HPK.out w6 HW6.out).mono ?_
        rintro e w7 ⟨v7, rfl, hs7, hg7⟩
        have HW7 : Hid (w5.drew.grownBy w7 none) := Lib.hid (HW6.out.trans hg7)
        have HS7 := Lib.hid hs7
        obtain ⟨A7, n7, c7, rfl⟩ := hs7.shape
        clear hs7 hg7
        try clear hccl
        go_wp2_with fail
        refine (HPL.out w7 HW7.out).mono ?_
        rintro e w8 ⟨v8, rfl, hs8, hg8⟩
        have HW8 : Hid (w5.drew.grownBy w8 none) := Lib.hid (HW7.out.trans hg8)
        have HN8 := Lib.hid (nums_eq _ _ _ _ _ w8 (HS7.out.kept hg8) hs8)
        obtain ⟨A8, n8, c8, rfl⟩ := hs8.shape
        clear hs8 hg8 HS7
        go_wp2_with fail
        refine HN8.out.mono ?_
        rintro e w9 ⟨rfl, n9, rfl⟩
        have HW9 : Hid (w5.drew.grownBy (w8.drewN n9) none) := Lib.hid (HW8.out.trans (grown_drewN' w8 n9))
        obtain ⟨w9, hw9⟩ : ∃ z, z = w8.drewN n9 := ⟨_, rfl⟩
        rw [← hw9] at HW9 ⊢
        clear hw9 HN8
        go_wp2_with fail
        refine (HP1.out w9 HW9.out).mono ?_
        rintro e w10 ⟨v10, rfl, hs10, hg10⟩
        have HW10 : Hid (w5.drew.grownBy w10 none) := Lib.hid (HW9.out.trans hg10)
        have HS10 := Lib.hid hs10
        obtain ⟨A10, n10, c10, rfl⟩ := hs10.shape
        clear hs10 hg10
        go_wp2_with fail
        refine (HP2.out w10 HW10.out).mono ?_
        rintro e w11 ⟨v11, rfl, hs11, hg11⟩
        have HW11 : Hid (w5.drew.grownBy w11 none) := Lib.hid (HW10.out.trans hg11)
        have HN11 := Lib.hid (nums_eq _ _ _ _ _ w11 (HS10.out.kept hg11) hs11)
        obtain ⟨A11, n11, c11, rfl⟩ := hs11.shape
        clear hs11 hg11 HS10
        go_wp2_with fail
        refine HN11.out.mono ?_
        rintro e w12 ⟨rfl, n12, rfl⟩
        have HW12 : Hid (w5.drew.grownBy (w11.drewN n12) none) := Lib.hid (HW11.out.trans (grown_drewN' w11 n12))
        obtain ⟨w12, hw12⟩ : ∃ z, z = w11.drewN n12 := ⟨_, rfl⟩
        rw [← hw12] at HW12 ⊢
        clear hw12 HN11
        go_wp2_with fail
        refine (HC1.out w12 HW12.out).mono ?_
        rintro e w13 ⟨v13, rfl, hs13, hg13⟩
        have HW13 : Hid (w5.drew.grownBy w13 none) := Lib.hid (HW12.out.trans hg13)
        have HS13 := Lib.hid hs13
        obtain ⟨A13, n13, c13, rfl⟩ := hs13.shape
        clear hs13 hg13
        go_wp2_with fail
        refine (HC2.out w13 HW13.out).mono ?_
        rintro e w14 ⟨v14, rfl, hs14, hg14⟩
        have HW14 : Hid (w5.drew.grownBy w14 none) := Lib.hid (HW13.out.trans hg14)
        have HN14 := Lib.hid (nums_eq _ _ _ _ _ w14 (HS13.out.kept hg14) hs14)
        obtain ⟨A14, n14, c14, rfl⟩ := hs14.shape
        clear hs14 hg14 HS13
        go_wp2_with fail
        refine HN14.out.mono ?_
        rintro e w15 ⟨rfl, n15, rfl⟩
        have HW15 : Hid (w.grownBy (w14.drewN n15) none) := Lib.hid (HGZ.out.trans (HW14.out.trans (grown_drewN' w14 n15)))
        obtain ⟨w15, hw15⟩ : ∃ z, z = w14.drewN n15 := ⟨_, rfl⟩
        rw [← hw15] at HW15 ⊢
        clear hw15 HN14
        go_wp2
        go_ret
        exact ⟨rfl, HW15.out⟩
      · try (injection e with e1 e2 e3; subst e1 e2 e3)
        try subst e
        first | (have hyJ : (0 : Int) < (nm : Int) := by omega) | (have hyJ : ¬ ((0 : Int) < (nm : Int)) := by omega)
        have hyI : (0 : Int) ≤ (nm : Int) := Int.natCast_nonneg nm
        clear hy
        go_wp2_with fail
        refine (HPK.out w6 HW6.out).mono ?_
        rintro e w7 ⟨v7, rfl, hs7, hg7⟩
        have HW7 : Hid (w5.drew.grownBy w7 none) := Lib.hid (HW6.out.trans hg7)
        have HS7 := Lib.hid hs7
        obtain ⟨A7, n7, c7, rfl⟩ := hs7.shape
        clear hs7 hg7
        try clear hccl
        go_wp2_with fail
        refine (HPL.out w7 HW7.out).mono ?_
        rintro e w8 ⟨v8, rfl, hs8, hg8⟩
        have HW8 : Hid (w5.drew.grownBy w8 none) := Lib.hid (HW7.out.trans hg8)
        have HN8 := Lib.hid (nums_eq _ _ _ _ _ w8 (HS7.out.kept hg8) hs8)
        obtain ⟨A8, n8, c8, rfl⟩ := hs8.shape
        clear hs8 hg8 HS7
        go_wp2_with fail
        refine HN8.out.mono ?_
        rintro e w9 ⟨rfl, n9, rfl⟩
        have HW9 : Hid (w5.drew.grownBy (w8.drewN n9) none) := Lib.hid (HW8.out.trans (grown_drewN' w8 n9))
        obtain ⟨w9, hw9⟩ : ∃ z, z = w8.drewN n9 := ⟨_, rfl⟩
        rw [← hw9] at HW9 ⊢
        clear hw9 HN8
        go_wp2_with fail
        refine (HP1.out w9 HW9.out).mono ?_
        rintro e w10 ⟨v10, rfl, hs10, hg10⟩
        have HW10 : Hid (w5.drew.grownBy w10 none) := Lib.hid (HW9.out.trans hg10)
        have HS10 := Lib.hid hs10
        obtain ⟨A10, n10, c10, rfl⟩ := hs10.shape
        clear hs10 hg10
        go_wp2_with fail
        refine (HP2.out w10 HW10.out).mono ?_
        rintro e w11 ⟨v11, rfl, hs11, hg11⟩
        have HW11 : Hid (w5.drew.grownBy w11 none) := Lib.hid (HW10.out.trans hg11)
        have HN11 := Lib.hid (nums_eq _ _ _ _ _ w11 (HS10.out.kept hg11) hs11)
        obtain ⟨A11, n11, c11, rfl⟩ := hs11.shape
        clear hs11 hg11 HS10
        go_wp2_with fail
        refine HN11.out.mono ?_
        rintro e w12 ⟨rfl, n12, rfl⟩
        have HW12 : Hid (w5.drew.grownBy (w11.drewN n12) none) := Lib.hid (HW11.out.trans (grown_drewN' w11 n12))
        obtain ⟨w12, hw12⟩ : ∃ z, z = w11.drewN n12 := ⟨_, rfl⟩
        rw [← hw12] at HW12 ⊢
        clear hw12 HN11
        go_wp2_with fail
        refine (HC1.out w12 HW12.out).mono ?_
        rintro e w13 ⟨v13, rfl, hs13, hg13⟩
        have HW13 : Hid (w5.drew.grownBy w13 none) := Lib.hid (HW12.out.trans hg13)
        have HS13 := Lib.hid hs13
        obtain ⟨A13, n13, c13, rfl⟩ := hs13.shape
        clear hs13 hg13
        go_wp2_with fail
        refine (HC2.out w13 HW13.out).mono ?_
        rintro e w14 ⟨v14, rfl, hs14, hg14⟩
        have HW14 : Hid (w5.drew.grownBy w14 none) := Lib.hid (HW13.out.trans hg14)
        have HN14 := Lib.hid (nums_eq _ _ _ _ _ w14 (HS13.out.kept hg14) hs14)
        obtain ⟨A14, n14, c14, rfl⟩ := hs14.shape
        clear hs14 hg14 HS13
        go_wp2_with fail
        refine HN14.out.mono ?_
        rintro e w15 ⟨rfl, n15, rfl⟩
        have HW15 : Hid (w.grownBy (w14.drewN n15) none) := Lib.hid (HGZ.out.trans (HW14.out.trans (grown_drewN' w14 n15)))
        obtain ⟨w15, hw15⟩ : ∃ z, z = w14.drewN n15 := ⟨_, rfl⟩
        rw [← hw15] at HW15 ⊢
        clear hw15 HN14
        go_wp2
        go_ret
        exact ⟨rfl, HW15.out⟩
    · try (injection e with e1 e2 e3; subst e1 e2 e3)
      try subst e
      first | (have hzJ : (0 : Int) < (na : Int) := by omega) | (have hzJ : ¬ ((0 : Int) < (na : Int)) := by omega)
      clear hz
      go_wp2_with fail
      refine HAT.out.mono ?_
      rintro e w5 ⟨v5, rfl, hs5, hg5⟩
      obtain ⟨Au, nu, cu, rfl⟩ := hs5.shape
      have HGW : Hid (w1.grownBy w5.drew none) := Lib.hid (hg5.trans (grown_drewN' w5 1))
      have HGZ : Hid (w.grownBy w5.drew none) := Lib.hid (HGA.out.trans HGW.out)
      have HSU := Lib.hid (hs5.kept (grown_drewN' w5 1))
      have HPR : Hid (∀ W, w5.drew.grownBy W none → ∀ o, W.cell? ⟨w.heap.size, o, none⟩ = (#[.int .u64 p.P, .int .u64 p.Q, .int .u64 p.G, .int .u64 p.H, .int .i64 p.Nodes, .int .i64 p.N, .int .i64 p.T, .int .i64 p.K, .int .i64 p.D, .int .i64 p.R, .int .i64 p.M, .int .i64 p.X] : Array Value)[o]?) := Lib.hid (fun W hW => (HBA.out.grown (HGW.out.trans hW) (by simp)).prule)
      have HQ9 : Hid (U64 p.Q) := Lib.hid HXY.out.2.2.Q
      have HRA : Hid (∀ W, w5.drew.grownBy W none → Calls Try.prog 7 #[.slice (some ⟨g, o, none⟩) na ca, .int .u64 x, .int .u64 p.Q] W (Gives encP (fun g => W.heap.size ≤ g) W (a.map (atP p.Q x)))) := Lib.hid (fun W hW => rat18_any _ a x p.Q Y W (HA.out.kept (HGZ.out.trans hW)) HXY.out.1 HQ9.out (by have := HLE.out.2.2.1; omega) (fun c hc => by have := HLE.out.2.2.2.1 c hc; omega))
      have HSM : Hid (∀ W v, w5.drew.grownBy W none → Sl encP TT W v (a.map (atP p.Q x)) → Calls Try.prog 6 #[.slice Au nu cu, v] W (Quietly W (.bool true))) := Lib.hid (fun W v hW hv => same_eq _ v _ _ TT W (HSU.out.kept hW) hv)
      obtain ⟨B1, hB1⟩ : ∃ y, y = dfitsB p a (rowComsI p m x) := ⟨_, rfl⟩
      obtain ⟨B2, hB2⟩ : ∃ z, z = dfitsB p b (colComsI p m y) := ⟨_, rfl⟩
      obtain ⟨B3, hB3⟩ : ∃ z, z = fitsI p (rowComsI p m x) y l := ⟨_, rfl⟩
      obtain ⟨B4, hB4⟩ : ∃ z, z = fitsI p (rowComsI p m x) y (a.map (atP p.Q x)) := ⟨_, rfl⟩
      have HF1 : Hid (∀ W, w5.drew.grownBy W none → Calls Try.prog 8 #[p.v, .slice Am nm cm, .int .u64 x, .slice (some ⟨g, o, none⟩) na ca] W fun e w' => e = .returned (.bool B1) ∧ W.grownBy w' none) := Lib.hid (fun W hW => by rw [hB1]; exact drowFits_any p _ _ m x a X Y W HXY.out.2.2 (HM.out.kept (HGZ.out.trans hW)) HXY.out.1 (HA.out.kept (HGZ.out.trans hW)) HLE.out.1 HLE.out.2.1 HLE.out.2.2.1 HLE.out.2.2.2.1)
      have HF2 : Hid (∀ W, w5.drew.grownBy W none → Calls Try.prog 9 #[p.v, .slice Am nm cm, .int .u64 x, .slice (some ⟨g, o, none⟩) na ca] W fun e w' => e = .returned (.bool B1) ∧ W.grownBy w' none) := Lib.hid (fun W hW => by rw [hB1]; exact rrowFits_any p _ _ m x a X Y W HXY.out.2.2 (HM.out.kept (HGZ.out.trans hW)) HXY.out.1 (HA.out.kept (HGZ.out.trans hW)) HLE.out.1 HLE.out.2.1 HLE.out.2.2.1 HLE.out.2.2.2.1)
      have HF3 : Hid (∀ W, w5.drew.grownBy W none → Calls Try.prog 10 #[p.v, .slice Am nm cm, .int .u64 y, .slice Ab nb cb] W fun e w' => e = .returned (.bool B2) ∧ W.grownBy w' none) := Lib.hid (fun W hW => by rw [hB2]; exact dcolFits_any p _ _ m y b X Z W HXY.out.2.2 (HM.out.kept (HGZ.out.trans hW)) HXY.out.2.1 (HB.out.kept (HGZ.out.trans hW)) HLE.out.1 HLE.out.2.1 HLE.out.2.2.2.2.1 HLE.out.2.2.2.2.2)
      have HF4 : Hid (∀ W, w5.drew.grownBy W none → Calls Try.prog 11 #[p.v, .slice Am nm cm, .int .u64 y, .slice Ab nb cb] W fun e w' => e = .returned (.bool B2) ∧ W.grownBy w' none) := Lib.hid (fun W hW => by rw [hB2]; exact rcolFits_any p _ _ m y b X Z W HXY.out.2.2 (HM.out.kept (HGZ.out.trans hW)) HXY.out.2.1 (HB.out.kept (HGZ.out.trans hW)) HLE.out.1 HLE.out.2.1 HLE.out.2.2.2.2.1 HLE.out.2.2.2.2.2)
      have HL100 : Hid (l.length ≤ 100000 ∧ (a.map (atP p.Q x)).length ≤ 100000) := Lib.hid ⟨by have := HL9.out.1; omega, by rw [List.length_map]; have := HLE.out.2.2.1; omega⟩
      have HF5 := Lib.hid (fun W (hW : w5.drew.grownBy W none) => dmeets_any p _ _ m x y l X TT W HXY.out.2.2 (HM.out.kept (HGZ.out.trans hW)) HXY.out.1 HXY.out.2.1 (HLS.out.kept (HGW.out.trans hW)) HLE.out.1 HLE.out.2.1 HL100.out.1)
      have HF6 := Lib.hid (fun W (hW : w5.drew.grownBy W none) => rmeets_any p _ _ m x y l X TT W HXY.out.2.2 (HM.out.kept (HGZ.out.trans hW)) HXY.out.1 HXY.out.2.1 (HLS.out.kept (HGW.out.trans hW)) HLE.out.1 HLE.out.2.1 HL100.out.1)
      have HF7 := Lib.hid (fun W (hW : w5.drew.grownBy W none) => dmeets_any p _ _ m x y (a.map (atP p.Q x)) X _ W HXY.out.2.2 (HM.out.kept (HGZ.out.trans hW)) HXY.out.1 HXY.out.2.1 (HSU.out.kept hW) HLE.out.1 HLE.out.2.1 HL100.out.2)
      have HF8 := Lib.hid (fun W (hW : w5.drew.grownBy W none) => rmeets_any p _ _ m x y (a.map (atP p.Q x)) X _ W HXY.out.2.2 (HM.out.kept (HGZ.out.trans hW)) HXY.out.1 HXY.out.2.1 (HSU.out.kept hW) HLE.out.1 HLE.out.2.1 HL100.out.2)
      rw [← hB3] at HF5 HF6
      rw [← hB4] at HF7 HF8
      have HPK := Lib.hid (fun W (hW : w5.drew.grownBy W none) => dpackG_any _ _ _ m a b X Y Z W (HM.out.kept (HGZ.out.trans hW)) (HA.out.kept (HGZ.out.trans hW)) (HB.out.kept (HGZ.out.trans hW)) HOK.out)
      have HPL := Lib.hid (fun W (hW : w5.drew.grownBy W none) => rpack_any _ _ _ m a b X Y Z W (HM.out.kept (HGZ.out.trans hW)) (HA.out.kept (HGZ.out.trans hW)) (HB.out.kept (HGZ.out.trans hW)) HOK.out)
      have HP1 := Lib.hid (fun W (hW : w5.drew.grownBy W none) => dpairs_any _ l TT W (HLS.out.kept (HGW.out.trans hW)) (by have := HL9.out.1; omega))
      have HP2 := Lib.hid (fun W (hW : w5.drew.grownBy W none) => rprs_any _ l TT W (HLS.out.kept (HGW.out.trans hW)) (by have := HL9.out.1; omega))
      have HC1 := Lib.hid (fun W (hW : w5.drew.grownBy W none) => dflat_any _ cs TT W (HCS.out.kept (HGW.out.trans hW)) (by have := HL9.out.2.1; omega) (fun r hr => by have := HL9.out.2.2 r hr; omega))
      have HC2 := Lib.hid (fun W (hW : w5.drew.grownBy W none) => rflat_any _ cs TT W (HCS.out.kept (HGW.out.trans hW)) (by have := HL9.out.2.1; omega) (fun r hr => by have := HL9.out.2.2 r hr; omega))
      have HVD : Hid (∀ W, w5.drew.grownBy W none → (nm = 0 ∧ .slice Ac nc cc = Value.slice none 0 0) ∨ ∃ g o, 0 < nm ∧ Am = some ⟨g, o, none⟩ ∧ W.cell? ⟨g, o, none⟩ = some (.slice Ac nc cc)) := Lib.hid (fun W hW => by
        rcases HVC.out with h | ⟨g, o, h1, h2, h3⟩
        · exact Or.inl h
        · exact Or.inr ⟨g, o, h1, h2, cellK h3 (HGW.out.trans hW) (by simp)⟩)
      clear hB1 hB2 hB3 hB4 hs5 hg5 hpr HSU HLE HL9 HL100 HOK HXY HQ9 HGW HGA HBA HM HA HB HN HVC HLS HCS HAT ja jm
      try clear hcl
      obtain ⟨AT, hAT⟩ : ∃ z, z = a.map (atP p.Q x) := ⟨_, rfl⟩
      rw [← hAT] at HRA HSM
      clear hAT
      go_upto_region 7 with (fail)
      refine wp_region_mono 64 (by kernel_rfl) (by kernel_rfl) ?_
      -- op 0 (slot 32): move
      refine MonoR.step (Pv.eq (.slice Au nu cu)) [] (by kernel_rfl) (fun w' hw' => ?_) ?_
      · refine ask_do rfl fun K hK => ?_
        go_simp
        exact hK _ _ rfl rfl (World.grownBy.refl _ none)
      -- op 1 (slot 33): move
      refine MonoR.step (Pv.eq (.slice (some ⟨g, o, none⟩) na ca)) [] (by kernel_rfl) (fun w' hw' => ?_) ?_
      · refine ask_do rfl fun K hK => ?_
        go_simp
        exact hK _ _ rfl rfl (World.grownBy.refl _ none)
      -- op 2 (slot 34): move
      refine MonoR.step (Pv.eq (.int .u64 x)) [] (by kernel_rfl) (fun w' hw' => ?_) ?_
      · refine ask_do rfl fun K hK => ?_
        go_simp
        exact hK _ _ rfl rfl (World.grownBy.refl _ none)
      -- op 3 (slot 35): fieldAddr
      refine MonoR.step (Pv.eq (.pointer (some ⟨w.heap.size, 1, none⟩))) [] (by kernel_rfl) (fun w' hw' => ?_) ?_
      · refine ask_do rfl fun K hK => ?_
        go_simp
        exact hK _ _ rfl rfl (World.grownBy.refl _ none)
      -- op 4 (slot 36): load
      refine MonoR.step (Pv.eq (.int .u64 p.Q)) [(3, 35)] (by kernel_rfl) (fun w' hw' => ?_) ?_
      · intro x35 h35
        have e35 : x35 = .pointer (some ⟨w.heap.size, 1, none⟩) := h35
        clear h35
        subst e35
        refine ask_do rfl fun K hK => ?_
        have hp := HPR.out w' hw'
        go_simp
        exact hK _ _ rfl rfl (World.grownBy.refl _ none)
      -- op 5 (slot 37): call
      refine MonoR.step (Pv.sl (encP) TT AT) [(1, 33), (2, 34), (4, 36)] (by kernel_rfl) (fun w' hw' => ?_) ?_
      · intro x33 h33
        intro x34 h34
        intro x36 h36
        have e33 : x33 = .slice (some ⟨g, o, none⟩) na ca := h33
        clear h33
        subst e33
        have e34 : x34 = .int .u64 x := h34
        clear h34
        subst e34
        have e36 : x36 = .int .u64 p.Q := h36
        clear h36
        subst e36
        refine ask_do rfl fun K hK => ?_
        go_simp
        refine (HRA.out w' hw').mono ?_
        rintro e w3 ⟨v3, rfl, h3, hg⟩
        exact hK _ _ rfl (h3.more (fun _ _ _ => trivial)) hg
      -- op 6 (slot 38): call
      refine MonoR.step (Pv.eq (.bool true)) [(0, 32), (5, 37)] (by kernel_rfl) (fun w' hw' => ?_) ?_
      · intro x32 h32
        intro x37 h37
        have h37 : Sl (encP) TT w' x37 AT := h37
        obtain ⟨A37, c37, e37, k37, l37⟩ := h37.form
        have e37 : x37 = .slice A37 AT.length c37 := e37
        subst e37
        have e32 : x32 = .slice Au nu cu := h32
        clear h32
        subst e32
        refine ask_do rfl fun K hK => ?_
        go_simp
        refine (HSM.out w' _ hw' h37).mono ?_
        rintro e w3 ⟨rfl, n3, rfl⟩
        exact hK _ _ rfl rfl (grown_drewN' w' n3)
      -- op 7 (slot 39): unOp
      refine MonoR.step (Pv.eq (.bool false)) [(6, 38)] (by kernel_rfl) (fun w' hw' => ?_) ?_
      · intro x38 h38
        have e38 : x38 = .bool true := h38
        clear h38
        subst e38
        refine ask_do rfl fun K hK => ?_
        go_simp
        exact hK _ _ rfl rfl (World.grownBy.refl _ none)
      -- op 8 (slot 40): move
      refine MonoR.step (Pv.eq (.bool false)) [(7, 39)] (by kernel_rfl) (fun w' hw' => ?_) ?_
      · intro x39 h39
        have e39 : x39 = .bool false := h39
        clear h39
        subst e39
        refine ask_do rfl fun K hK => ?_
        go_simp
        exact hK _ _ rfl rfl (World.grownBy.refl _ none)
      -- op 9 (slot 41): load [(8, 'false')]
      refine MonoR.step (Pv.eq (p.v)) [(8, 40)] (by kernel_rfl) (fun w' hw' => ?_) ?_
      · intro x40 h40
        have e40 : x40 = .bool false := h40
        clear h40
        subst e40
        refine ask_do (by kernel_rfl) fun K hK => ?_
        have hp := HPR.out w' hw'
        go_simp
        exact hK _ _ rfl rfl (World.grownBy.refl _ none)
      -- op 10 (slot 42): move [(8, 'false')]
      refine MonoR.step (Pv.eq (.slice Am nm cm)) [(8, 40)] (by kernel_rfl) (fun w' hw' => ?_) ?_
      · intro x40 h40
        have e40 : x40 = .bool false := h40
        clear h40
        subst e40
        refine ask_do (by kernel_rfl) fun K hK => ?_
        go_simp
        exact hK _ _ rfl rfl (World.grownBy.refl _ none)
      -- op 11 (slot 43): move [(8, 'false')]
      refine MonoR.step (Pv.eq (.int .u64 x)) [(8, 40)] (by kernel_rfl) (fun w' hw' => ?_) ?_
      · intro x40 h40
        have e40 : x40 = .bool false := h40
        clear h40
        subst e40
        refine ask_do (by kernel_rfl) fun K hK => ?_
        go_simp
        exact hK _ _ rfl rfl (World.grownBy.refl _ none)
      -- op 12 (slot 44): move [(8, 'false')]
      refine MonoR.step (Pv.eq (.slice (some ⟨g, o, none⟩) na ca)) [(8, 40)] (by kernel_rfl) (fun w' hw' => ?_) ?_
      · intro x40 h40
        have e40 : x40 = .bool false := h40
        clear h40
        subst e40
        refine ask_do (by kernel_rfl) fun K hK => ?_
        go_simp
        exact hK _ _ rfl rfl (World.grownBy.refl _ none)
      -- op 13 (slot 45): call [(8, 'false')]
      refine MonoR.step (Pv.eq (.bool B1)) [(8, 40), (9, 41), (10, 42), (11, 43), (12, 44)] (by kernel_rfl) (fun w' hw' => ?_) ?_
      · intro x40 h40
        intro x41 h41
        intro x42 h42
        intro x43 h43
        intro x44 h44
        have e40 : x40 = .bool false := h40
        clear h40
        subst e40
        have e41 : x41 = p.v := h41
        clear h41
        subst e41
        have e42 : x42 = .slice Am nm cm := h42
        clear h42
        subst e42
        have e43 : x43 = .int .u64 x := h43
        clear h43
        subst e43
        have e44 : x44 = .slice (some ⟨g, o, none⟩) na ca := h44
        clear h44
        subst e44
        refine ask_do (by kernel_rfl) fun K hK => ?_
        go_simp
        refine (HF1.out w' hw').mono ?_
        rintro e w3 ⟨rfl, hg⟩
        exact hK _ _ rfl rfl hg
      -- op 14 (slot 46): load [(8, 'false')]
      refine MonoR.step (Pv.eq (p.v)) [(8, 40)] (by kernel_rfl) (fun w' hw' => ?_) ?_
      · intro x40 h40
        have e40 : x40 = .bool false := h40
        clear h40
        subst e40
        refine ask_do (by kernel_rfl) fun K hK => ?_
        have hp := HPR.out w' hw'
        go_simp
        exact hK _ _ rfl rfl (World.grownBy.refl _ none)
      -- op 15 (slot 47): move [(8, 'false')]
      refine MonoR.step (Pv.eq (.slice Am nm cm)) [(8, 40)] (by kernel_rfl) (fun w' hw' => ?_) ?_
      · intro x40 h40
        have e40 : x40 = .bool false := h40
        clear h40
        subst e40
        refine ask_do (by kernel_rfl) fun K hK => ?_
        go_simp
        exact hK _ _ rfl rfl (World.grownBy.refl _ none)
      -- op 16 (slot 48): move [(8, 'false')]
      refine MonoR.step (Pv.eq (.int .u64 x)) [(8, 40)] (by kernel_rfl) (fun w' hw' => ?_) ?_
      · intro x40 h40
        have e40 : x40 = .bool false := h40
        clear h40
        subst e40
        refine ask_do (by kernel_rfl) fun K hK => ?_
        go_simp
        exact hK _ _ rfl rfl (World.grownBy.refl _ none)
      -- op 17 (slot 49): move [(8, 'false')]
      refine MonoR.step (Pv.eq (.slice (some ⟨g, o, none⟩) na ca)) [(8, 40)] (by kernel_rfl) (fun w' hw' => ?_) ?_
      · intro x40 h40
        have e40 : x40 = .bool false := h40
        clear h40
        subst e40
        refine ask_do (by kernel_rfl) fun K hK => ?_
        go_simp
        exact hK _ _ rfl rfl (World.grownBy.refl _ none)
      -- op 18 (slot 50): call [(8, 'false')]
      refine MonoR.step (Pv.eq (.bool B1)) [(8, 40), (14, 46), (15, 47), (16, 48), (17, 49)] (by kernel_rfl) (fun w' hw' => ?_) ?_
      · intro x40 h40
        intro x46 h46
        intro x47 h47
        intro x48 h48
        intro x49 h49
        have e40 : x40 = .bool false := h40
        clear h40
        subst e40
        have e46 : x46 = p.v := h46
        clear h46
        subst e46
        have e47 : x47 = .slice Am nm cm := h47
        clear h47
        subst e47
        have e48 : x48 = .int .u64 x := h48
        clear h48
        subst e48
        have e49 : x49 = .slice (some ⟨g, o, none⟩) na ca := h49
        clear h49
        subst e49
        refine ask_do (by kernel_rfl) fun K hK => ?_
        go_simp
        refine (HF2.out w' hw').mono ?_
        rintro e w3 ⟨rfl, hg⟩
        exact hK _ _ rfl rfl hg
      -- op 19 (slot 51): binOp [(8, 'false')]
      refine MonoR.step (Pv.eq (.bool false)) [(8, 40), (13, 45), (18, 50)] (by kernel_rfl) (fun w' hw' => ?_) ?_
      · intro x40 h40
        intro x45 h45
        intro x50 h50
        have e40 : x40 = .bool false := h40
        clear h40
        subst e40
        have e45 : x45 = .bool B1 := h45
        clear h45
        subst e45
        have e50 : x50 = .bool B1 := h50
        clear h50
        subst e50
        refine ask_do (by kernel_rfl) fun K hK => ?_
        go_simp
        exact hK _ _ rfl rfl (World.grownBy.refl _ none)
      -- op 20 (slot 52): pick
      refine MonoR.step (Pv.eq (.bool false)) [(8, 40), (19, 51)] (by kernel_rfl) (fun w' hw' => ?_) ?_
      · intro x40 h40
        intro x51 h51
        have e40 : x40 = .bool false := h40
        clear h40
        subst e40
        have e51 : x51 = .bool false := h51
        clear h51
        subst e51
        refine ask_do rfl fun K hK => ?_
        go_simp
        exact hK _ _ rfl rfl (World.grownBy.refl _ none)
      -- op 21 (slot 53): move
      refine MonoR.step (Pv.eq (.bool false)) [(20, 52)] (by kernel_rfl) (fun w' hw' => ?_) ?_
      · intro x52 h52
        have e52 : x52 = .bool false := h52
        clear h52
        subst e52
        refine ask_do rfl fun K hK => ?_
        go_simp
        exact hK _ _ rfl rfl (World.grownBy.refl _ none)
      -- op 22 (slot 54): load [(21, 'false')]
      refine MonoR.step (Pv.eq (p.v)) [(21, 53)] (by kernel_rfl) (fun w' hw' => ?_) ?_
      · intro x53 h53
        have e53 : x53 = .bool false := h53
        clear h53
        subst e53
        refine ask_do (by kernel_rfl) fun K hK => ?_
        have hp := HPR.out w' hw'
        go_simp
        exact hK _ _ rfl rfl (World.grownBy.refl _ none)
      -- op 23 (slot 55): move [(21, 'false')]
      refine MonoR.step (Pv.eq (.slice Am nm cm)) [(21, 53)] (by kernel_rfl) (fun w' hw' => ?_) ?_
      · intro x53 h53
        have e53 : x53 = .bool false := h53
        clear h53
        subst e53
        refine ask_do (by kernel_rfl) fun K hK => ?_
        go_simp
        exact hK _ _ rfl rfl (World.grownBy.refl _ none)
      -- op 24 (slot 56): move [(21, 'false')]
      refine MonoR.step (Pv.eq (.int .u64 y)) [(21, 53)] (by kernel_rfl) (fun w' hw' => ?_) ?_
      · intro x53 h53
        have e53 : x53 = .bool false := h53
        clear h53
        subst e53
        refine ask_do (by kernel_rfl) fun K hK => ?_
        go_simp
        exact hK _ _ rfl rfl (World.grownBy.refl _ none)
      -- op 25 (slot 57): move [(21, 'false')]
      refine MonoR.step (Pv.eq (.slice Ab nb cb)) [(21, 53)] (by kernel_rfl) (fun w' hw' => ?_) ?_
      · intro x53 h53
        have e53 : x53 = .bool false := h53
        clear h53
        subst e53
        refine ask_do (by kernel_rfl) fun K hK => ?_
        go_simp
        exact hK _ _ rfl rfl (World.grownBy.refl _ none)
      -- op 26 (slot 58): call [(21, 'false')]
      refine MonoR.step (Pv.eq (.bool B2)) [(21, 53), (22, 54), (23, 55), (24, 56), (25, 57)] (by kernel_rfl) (fun w' hw' => ?_) ?_
      · intro x53 h53
        intro x54 h54
        intro x55 h55
        intro x56 h56
        intro x57 h57
        have e53 : x53 = .bool false := h53
        clear h53
        subst e53
        have e54 : x54 = p.v := h54
        clear h54
        subst e54
        have e55 : x55 = .slice Am nm cm := h55
        clear h55
        subst e55
        have e56 : x56 = .int .u64 y := h56
        clear h56
        subst e56
        have e57 : x57 = .slice Ab nb cb := h57
        clear h57
        subst e57
        refine ask_do (by kernel_rfl) fun K hK => ?_
        go_simp
        refine (HF3.out w' hw').mono ?_
        rintro e w3 ⟨rfl, hg⟩
        exact hK _ _ rfl rfl hg
      -- op 27 (slot 59): load [(21, 'false')]
      refine MonoR.step (Pv.eq (p.v)) [(21, 53)] (by kernel_rfl) (fun w' hw' => ?_) ?_
      · intro x53 h53
        have e53 : x53 = .bool false := h53
        clear h53
        subst e53
        refine ask_do (by kernel_rfl) fun K hK => ?_
        have hp := HPR.out w' hw'
        go_simp
        exact hK _ _ rfl rfl (World.grownBy.refl _ none)
      -- op 28 (slot 60): move [(21, 'false')]
      refine MonoR.step (Pv.eq (.slice Am nm cm)) [(21, 53)] (by kernel_rfl) (fun w' hw' => ?_) ?_
      · intro x53 h53
        have e53 : x53 = .bool false := h53
        clear h53
        subst e53
        refine ask_do (by kernel_rfl) fun K hK => ?_
        go_simp
        exact hK _ _ rfl rfl (World.grownBy.refl _ none)
      -- op 29 (slot 61): move [(21, 'false')]
      refine MonoR.step (Pv.eq (.int .u64 y)) [(21, 53)] (by kernel_rfl) (fun w' hw' => ?_) ?_
      · intro x53 h53
        have e53 : x53 = .bool false := h53
        clear h53
        subst e53
        refine ask_do (by kernel_rfl) fun K hK => ?_
        go_simp
        exact hK _ _ rfl rfl (World.grownBy.refl _ none)
      -- op 30 (slot 62): move [(21, 'false')]
      refine MonoR.step (Pv.eq (.slice Ab nb cb)) [(21, 53)] (by kernel_rfl) (fun w' hw' => ?_) ?_
      · intro x53 h53
        have e53 : x53 = .bool false := h53
        clear h53
        subst e53
        refine ask_do (by kernel_rfl) fun K hK => ?_
        go_simp
        exact hK _ _ rfl rfl (World.grownBy.refl _ none)
      -- op 31 (slot 63): call [(21, 'false')]
      refine MonoR.step (Pv.eq (.bool B2)) [(21, 53), (27, 59), (28, 60), (29, 61), (30, 62)] (by kernel_rfl) (fun w' hw' => ?_) ?_
      · intro x53 h53
        intro x59 h59
        intro x60 h60
        intro x61 h61
        intro x62 h62
        have e53 : x53 = .bool false := h53
        clear h53
        subst e53
        have e59 : x59 = p.v := h59
        clear h59
        subst e59
        have e60 : x60 = .slice Am nm cm := h60
        clear h60
        subst e60
        have e61 : x61 = .int .u64 y := h61
        clear h61
        subst e61
        have e62 : x62 = .slice Ab nb cb := h62
        clear h62
        subst e62
        refine ask_do (by kernel_rfl) fun K hK => ?_
        go_simp
        refine (HF4.out w' hw').mono ?_
        rintro e w3 ⟨rfl, hg⟩
        exact hK _ _ rfl rfl hg
      -- op 32 (slot 64): binOp [(21, 'false')]
      refine MonoR.step (Pv.eq (.bool false)) [(21, 53), (26, 58), (31, 63)] (by kernel_rfl) (fun w' hw' => ?_) ?_
      · intro x53 h53
        intro x58 h58
        intro x63 h63
        have e53 : x53 = .bool false := h53
        clear h53
        subst e53
        have e58 : x58 = .bool B2 := h58
        clear h58
        subst e58
        have e63 : x63 = .bool B2 := h63
        clear h63
        subst e63
        refine ask_do (by kernel_rfl) fun K hK => ?_
        go_simp
        exact hK _ _ rfl rfl (World.grownBy.refl _ none)
      -- op 33 (slot 65): pick
      refine MonoR.step (Pv.eq (.bool false)) [(21, 53), (32, 64)] (by kernel_rfl) (fun w' hw' => ?_) ?_
      · intro x53 h53
        intro x64 h64
        have e53 : x53 = .bool false := h53
        clear h53
        subst e53
        have e64 : x64 = .bool false := h64
        clear h64
        subst e64
        refine ask_do rfl fun K hK => ?_
        go_simp
        exact hK _ _ rfl rfl (World.grownBy.refl _ none)
      -- op 34 (slot 66): move
      refine MonoR.step (Pv.eq (.bool false)) [(33, 65)] (by kernel_rfl) (fun w' hw' => ?_) ?_
      · intro x65 h65
        have e65 : x65 = .bool false := h65
        clear h65
        subst e65
        refine ask_do rfl fun K hK => ?_
        go_simp
        exact hK _ _ rfl rfl (World.grownBy.refl _ none)
      -- op 35 (slot 67): load [(34, 'false')]
      refine MonoR.step (Pv.eq (p.v)) [(34, 66)] (by kernel_rfl) (fun w' hw' => ?_) ?_
      · intro x66 h66
        have e66 : x66 = .bool false := h66
        clear h66
        subst e66
        refine ask_do (by kernel_rfl) fun K hK => ?_
        have hp := HPR.out w' hw'
        go_simp
        exact hK _ _ rfl rfl (World.grownBy.refl _ none)
      -- op 36 (slot 68): move [(34, 'false')]
      refine MonoR.step (Pv.eq (.slice Am nm cm)) [(34, 66)] (by kernel_rfl) (fun w' hw' => ?_) ?_
      · intro x66 h66
        have e66 : x66 = .bool false := h66
        clear h66
        subst e66
        refine ask_do (by kernel_rfl) fun K hK => ?_
        go_simp
        exact hK _ _ rfl rfl (World.grownBy.refl _ none)
      -- op 37 (slot 69): move [(34, 'false')]
      refine MonoR.step (Pv.eq (.int .u64 x)) [(34, 66)] (by kernel_rfl) (fun w' hw' => ?_) ?_
      · intro x66 h66
        have e66 : x66 = .bool false := h66
        clear h66
        subst e66
        refine ask_do (by kernel_rfl) fun K hK => ?_
        go_simp
        exact hK _ _ rfl rfl (World.grownBy.refl _ none)
      -- op 38 (slot 70): move [(34, 'false')]
      refine MonoR.step (Pv.eq (.int .u64 y)) [(34, 66)] (by kernel_rfl) (fun w' hw' => ?_) ?_
      · intro x66 h66
        have e66 : x66 = .bool false := h66
        clear h66
        subst e66
        refine ask_do (by kernel_rfl) fun K hK => ?_
        go_simp
        exact hK _ _ rfl rfl (World.grownBy.refl _ none)
      -- op 39 (slot 71): move [(34, 'false')]
      refine MonoR.step (Pv.eq (.slice Al nl cl)) [(34, 66)] (by kernel_rfl) (fun w' hw' => ?_) ?_
      · intro x66 h66
        have e66 : x66 = .bool false := h66
        clear h66
        subst e66
        refine ask_do (by kernel_rfl) fun K hK => ?_
        go_simp
        exact hK _ _ rfl rfl (World.grownBy.refl _ none)
      -- op 40 (slot 72): call [(34, 'false')]
      refine MonoR.step (Pv.eq (.bool B3)) [(34, 66), (35, 67), (36, 68), (37, 69), (38, 70), (39, 71)] (by kernel_rfl) (fun w' hw' => ?_) ?_
      · intro x66 h66
        intro x67 h67
        intro x68 h68
        intro x69 h69
        intro x70 h70
        intro x71 h71
        have e66 : x66 = .bool false := h66
        clear h66
        subst e66
        have e67 : x67 = p.v := h67
        clear h67
        subst e67
        have e68 : x68 = .slice Am nm cm := h68
        clear h68
        subst e68
        have e69 : x69 = .int .u64 x := h69
        clear h69
        subst e69
        have e70 : x70 = .int .u64 y := h70
        clear h70
        subst e70
        have e71 : x71 = .slice Al nl cl := h71
        clear h71
        subst e71
        refine ask_do (by kernel_rfl) fun K hK => ?_
        go_simp
        refine (HF5.out w' hw').mono ?_
        rintro e w3 ⟨rfl, hg⟩
        exact hK _ _ rfl rfl hg
      -- op 41 (slot 73): load [(34, 'false')]
      refine MonoR.step (Pv.eq (p.v)) [(34, 66)] (by kernel_rfl) (fun w' hw' => ?_) ?_
      · intro x66 h66
        have e66 : x66 = .bool false := h66
        clear h66
        subst e66
        refine ask_do (by kernel_rfl) fun K hK => ?_
        have hp := HPR.out w' hw'
        go_simp
        exact hK _ _ rfl rfl (World.grownBy.refl _ none)
      -- op 42 (slot 74): move [(34, 'false')]
      refine MonoR.step (Pv.eq (.slice Am nm cm)) [(34, 66)] (by kernel_rfl) (fun w' hw' => ?_) ?_
      · intro x66 h66
        have e66 : x66 = .bool false := h66
        clear h66
        subst e66
        refine ask_do (by kernel_rfl) fun K hK => ?_
        go_simp
        exact hK _ _ rfl rfl (World.grownBy.refl _ none)
      -- op 43 (slot 75): move [(34, 'false')]
      refine MonoR.step (Pv.eq (.int .u64 x)) [(34, 66)] (by kernel_rfl) (fun w' hw' => ?_) ?_
      · intro x66 h66
        have e66 : x66 = .bool false := h66
        clear h66
        subst e66
        refine ask_do (by kernel_rfl) fun K hK => ?_
        go_simp
        exact hK _ _ rfl rfl (World.grownBy.refl _ none)
      -- op 44 (slot 76): move [(34, 'false')]
      refine MonoR.step (Pv.eq (.int .u64 y)) [(34, 66)] (by kernel_rfl) (fun w' hw' => ?_) ?_
      · intro x66 h66
        have e66 : x66 = .bool false := h66
        clear h66
        subst e66
        refine ask_do (by kernel_rfl) fun K hK => ?_
        go_simp
        exact hK _ _ rfl rfl (World.grownBy.refl _ none)
      -- op 45 (slot 77): move [(34, 'false')]
      refine MonoR.step (Pv.eq (.slice Al nl cl)) [(34, 66)] (by kernel_rfl) (fun w' hw' => ?_) ?_
      · intro x66 h66
        have e66 : x66 = .bool false := h66
        clear h66
        subst e66
        refine ask_do (by kernel_rfl) fun K hK => ?_
        go_simp
        exact hK _ _ rfl rfl (World.grownBy.refl _ none)
      -- op 46 (slot 78): call [(34, 'false')]
      refine MonoR.step (Pv.eq (.bool B3)) [(34, 66), (41, 73), (42, 74), (43, 75), (44, 76), (45, 77)] (by kernel_rfl) (fun w' hw' => ?_) ?_
      · intro x66 h66
        intro x73 h73
        intro x74 h74
        intro x75 h75
        intro x76 h76
        intro x77 h77
        have e66 : x66 = .bool false := h66
        clear h66
        subst e66
        have e73 : x73 = p.v := h73
        clear h73
        subst e73
        have e74 : x74 = .slice Am nm cm := h74
        clear h74
        subst e74
        have e75 : x75 = .int .u64 x := h75
        clear h75
        subst e75
        have e76 : x76 = .int .u64 y := h76
        clear h76
        subst e76
        have e77 : x77 = .slice Al nl cl := h77
        clear h77
        subst e77
        refine ask_do (by kernel_rfl) fun K hK => ?_
        go_simp
        refine (HF6.out w' hw').mono ?_
        rintro e w3 ⟨rfl, hg⟩
        exact hK _ _ rfl rfl hg
      -- op 47 (slot 79): binOp [(34, 'false')]
      refine MonoR.step (Pv.eq (.bool false)) [(34, 66), (40, 72), (46, 78)] (by kernel_rfl) (fun w' hw' => ?_) ?_
      · intro x66 h66
        intro x72 h72
        intro x78 h78
        have e66 : x66 = .bool false := h66
        clear h66
        subst e66
        have e72 : x72 = .bool B3 := h72
        clear h72
        subst e72
        have e78 : x78 = .bool B3 := h78
        clear h78
        subst e78
        refine ask_do (by kernel_rfl) fun K hK => ?_
        go_simp
        exact hK _ _ rfl rfl (World.grownBy.refl _ none)
      -- op 48 (slot 80): pick
      refine MonoR.step (Pv.eq (.bool false)) [(34, 66), (47, 79)] (by kernel_rfl) (fun w' hw' => ?_) ?_
      · intro x66 h66
        intro x79 h79
        have e66 : x66 = .bool false := h66
        clear h66
        subst e66
        have e79 : x79 = .bool false := h79
        clear h79
        subst e79
        refine ask_do rfl fun K hK => ?_
        go_simp
        exact hK _ _ rfl rfl (World.grownBy.refl _ none)
      -- op 49 (slot 81): move
      refine MonoR.step (Pv.eq (.bool false)) [(48, 80)] (by kernel_rfl) (fun w' hw' => ?_) ?_
      · intro x80 h80
        have e80 : x80 = .bool false := h80
        clear h80
        subst e80
        refine ask_do rfl fun K hK => ?_
        go_simp
        exact hK _ _ rfl rfl (World.grownBy.refl _ none)
      -- op 50 (slot 82): load [(49, 'false')]
      refine MonoR.step (Pv.eq (p.v)) [(49, 81)] (by kernel_rfl) (fun w' hw' => ?_) ?_
      · intro x81 h81
        have e81 : x81 = .bool false := h81
        clear h81
        subst e81
        refine ask_do (by kernel_rfl) fun K hK => ?_
        have hp := HPR.out w' hw'
        go_simp
        exact hK _ _ rfl rfl (World.grownBy.refl _ none)
      -- op 51 (slot 83): move [(49, 'false')]
      refine MonoR.step (Pv.eq (.slice Am nm cm)) [(49, 81)] (by kernel_rfl) (fun w' hw' => ?_) ?_
      · intro x81 h81
        have e81 : x81 = .bool false := h81
        clear h81
        subst e81
        refine ask_do (by kernel_rfl) fun K hK => ?_
        go_simp
        exact hK _ _ rfl rfl (World.grownBy.refl _ none)
      -- op 52 (slot 84): move [(49, 'false')]
      refine MonoR.step (Pv.eq (.int .u64 x)) [(49, 81)] (by kernel_rfl) (fun w' hw' => ?_) ?_
      · intro x81 h81
        have e81 : x81 = .bool false := h81
        clear h81
        subst e81
        refine ask_do (by kernel_rfl) fun K hK => ?_
        go_simp
        exact hK _ _ rfl rfl (World.grownBy.refl _ none)
      -- op 53 (slot 85): move [(49, 'false')]
      refine MonoR.step (Pv.eq (.int .u64 y)) [(49, 81)] (by kernel_rfl) (fun w' hw' => ?_) ?_
      · intro x81 h81
        have e81 : x81 = .bool false := h81
        clear h81
        subst e81
        refine ask_do (by kernel_rfl) fun K hK => ?_
        go_simp
        exact hK _ _ rfl rfl (World.grownBy.refl _ none)
      -- op 54 (slot 86): move [(49, 'false')]
      refine MonoR.step (Pv.eq (.slice Au nu cu)) [(49, 81)] (by kernel_rfl) (fun w' hw' => ?_) ?_
      · intro x81 h81
        have e81 : x81 = .bool false := h81
        clear h81
        subst e81
        refine ask_do (by kernel_rfl) fun K hK => ?_
        go_simp
        exact hK _ _ rfl rfl (World.grownBy.refl _ none)
      -- op 55 (slot 87): call [(49, 'false')]
      refine MonoR.step (Pv.eq (.bool B4)) [(49, 81), (50, 82), (51, 83), (52, 84), (53, 85), (54, 86)] (by kernel_rfl) (fun w' hw' => ?_) ?_
      · intro x81 h81
        intro x82 h82
        intro x83 h83
        intro x84 h84
        intro x85 h85
        intro x86 h86
        have e81 : x81 = .bool false := h81
        clear h81
        subst e81
        have e82 : x82 = p.v := h82
        clear h82
        subst e82
        have e83 : x83 = .slice Am nm cm := h83
        clear h83
        subst e83
        have e84 : x84 = .int .u64 x := h84
        clear h84
        subst e84
        have e85 : x85 = .int .u64 y := h85
        clear h85
        subst e85
        have e86 : x86 = .slice Au nu cu := h86
        clear h86
        subst e86
        refine ask_do (by kernel_rfl) fun K hK => ?_
        go_simp
        refine (HF7.out w' hw').mono ?_
        rintro e w3 ⟨rfl, hg⟩
        exact hK _ _ rfl rfl hg
      -- op 56 (slot 88): load [(49, 'false')]
      refine MonoR.step (Pv.eq (p.v)) [(49, 81)] (by kernel_rfl) (fun w' hw' => ?_) ?_
      · intro x81 h81
        have e81 : x81 = .bool false := h81
        clear h81
        subst e81
        refine ask_do (by kernel_rfl) fun K hK => ?_
        have hp := HPR.out w' hw'
        go_simp
        exact hK _ _ rfl rfl (World.grownBy.refl _ none)
      -- op 57 (slot 89): move [(49, 'false')]
      refine MonoR.step (Pv.eq (.slice Am nm cm)) [(49, 81)] (by kernel_rfl) (fun w' hw' => ?_) ?_
      · intro x81 h81
        have e81 : x81 = .bool false := h81
        clear h81
        subst e81
        refine ask_do (by kernel_rfl) fun K hK => ?_
        go_simp
        exact hK _ _ rfl rfl (World.grownBy.refl _ none)
      -- op 58 (slot 90): move [(49, 'false')]
      refine MonoR.step (Pv.eq (.int .u64 x)) [(49, 81)] (by kernel_rfl) (fun w' hw' => ?_) ?_
      · intro x81 h81
        have e81 : x81 = .bool false := h81
        clear h81
        subst e81
        refine ask_do (by kernel_rfl) fun K hK => ?_
        go_simp
        exact hK _ _ rfl rfl (World.grownBy.refl _ none)
      -- op 59 (slot 91): move [(49, 'false')]
      refine MonoR.step (Pv.eq (.int .u64 y)) [(49, 81)] (by kernel_rfl) (fun w' hw' => ?_) ?_
      · intro x81 h81
        have e81 : x81 = .bool false := h81
        clear h81
        subst e81
        refine ask_do (by kernel_rfl) fun K hK => ?_
        go_simp
        exact hK _ _ rfl rfl (World.grownBy.refl _ none)
      -- op 60 (slot 92): move [(49, 'false')]
      refine MonoR.step (Pv.eq (.slice Au nu cu)) [(49, 81)] (by kernel_rfl) (fun w' hw' => ?_) ?_
      · intro x81 h81
        have e81 : x81 = .bool false := h81
        clear h81
        subst e81
        refine ask_do (by kernel_rfl) fun K hK => ?_
        go_simp
        exact hK _ _ rfl rfl (World.grownBy.refl _ none)
      -- op 61 (slot 93): call [(49, 'false')]
      refine MonoR.step (Pv.eq (.bool B4)) [(49, 81), (56, 88), (57, 89), (58, 90), (59, 91), (60, 92)] (by kernel_rfl) (fun w' hw' => ?_) ?_
      · intro x81 h81
        intro x88 h88
        intro x89 h89
        intro x90 h90
        intro x91 h91
        intro x92 h92
        have e81 : x81 = .bool false := h81
        clear h81
        subst e81
        have e88 : x88 = p.v := h88
        clear h88
        subst e88
        have e89 : x89 = .slice Am nm cm := h89
        clear h89
        subst e89
        have e90 : x90 = .int .u64 x := h90
        clear h90
        subst e90
        have e91 : x91 = .int .u64 y := h91
        clear h91
        subst e91
        have e92 : x92 = .slice Au nu cu := h92
        clear h92
        subst e92
        refine ask_do (by kernel_rfl) fun K hK => ?_
        go_simp
        refine (HF8.out w' hw').mono ?_
        rintro e w3 ⟨rfl, hg⟩
        exact hK _ _ rfl rfl hg
      -- op 62 (slot 94): binOp [(49, 'false')]
      refine MonoR.step (Pv.eq (.bool false)) [(49, 81), (55, 87), (61, 93)] (by kernel_rfl) (fun w' hw' => ?_) ?_
      · intro x81 h81
        intro x87 h87
        intro x93 h93
        have e81 : x81 = .bool false := h81
        clear h81
        subst e81
        have e87 : x87 = .bool B4 := h87
        clear h87
        subst e87
        have e93 : x93 = .bool B4 := h93
        clear h93
        subst e93
        refine ask_do (by kernel_rfl) fun K hK => ?_
        go_simp
        exact hK _ _ rfl rfl (World.grownBy.refl _ none)
      -- op 63 (slot 95): pick
      refine MonoR.step (Pv.eq (.bool false)) [(49, 81), (62, 94)] (by kernel_rfl) (fun w' hw' => ?_) ?_
      · intro x81 h81
        intro x94 h94
        have e81 : x81 = .bool false := h81
        clear h81
        subst e81
        have e94 : x94 = .bool false := h94
        clear h94
        subst e94
        refine ask_do rfl fun K hK => ?_
        go_simp
        exact hK _ _ rfl rfl (World.grownBy.refl _ none)
      
      intro w6 hw6
      intro y0 k0 y1 k1 y2 k2 y3 k3 y4 k4 y5 k5 y6 k6 y7 k7 y8 k8 y9 k9 y10 k10 y11 k11 y12 k12 y13 k13 y14 k14 y15 k15 y16 k16 y17 k17 y18 k18 y19 k19 y20 k20 y21 k21 y22 k22 y23 k23 y24 k24 y25 k25 y26 k26 y27 k27 y28 k28 y29 k29 y30 k30 y31 k31 y32 k32 y33 k33 y34 k34 y35 k35 y36 k36 y37 k37 y38 k38 y39 k39 y40 k40 y41 k41 y42 k42 y43 k43 y44 k44 y45 k45 y46 k46 y47 k47 y48 k48 y49 k49 y50 k50 y51 k51 y52 k52 y53 k53 y54 k54 y55 k55 y56 k56 y57 k57 y58 k58 y59 k59 y60 k60 y61 k61 y62 k62 y63 k63
      have e63 : y63 = .bool false := k63
      subst e63
      have HW6 := Lib.hid hw6
      clear k0 k1 k2 k3 k4 k5 k6 k7 k8 k9 k10 k11 k12 k13 k14 k15 k16 k17 k18 k19 k20 k21 k22 k23 k24 k25 k26 k27 k28 k29 k30 k31 k32 k33 k34 k35 k36 k37 k38 k39 k40 k41 k42 k43 k44 k45 k46 k47 k48 k49 k50 k51 k52 k53 k54 k55 k56 k57 k58 k59 k60 k61 k62 k63 hw6 HF1 HF2 HF3 HF4 HF5 HF6 HF7 HF8 HRA HSM HPR
      refine wpList_nil ?_
      simp only [Act.put, List.setIfInBounds_toArray, List.set_cons_zero, List.set_cons_succ]
      have hV6 := HVD.out w6 HW6.out
      clear HVD
      rcases hV6 with ⟨hy, e⟩ | ⟨gc, oc, hy, e, hccl⟩
      · try (injection e with e1 e2 e3; subst e1 e2 e3)
        try subst e
        first | (have hyJ : (0 : Int) < (nm : Int) := by omega) | (have hyJ : ¬ ((0 : Int) < (nm : Int)) := by omega)
        have hyI : (0 : Int) ≤ (nm : Int) := Int.natCast_nonneg nm
        clear hy
        go_wp2_with fail
        refine (HPK.out w6 HW6.out).mono ?_
        rintro e w7 ⟨v7, rfl, hs7, hg7⟩
        have HW7 : Hid (w5.drew.grownBy w7 none) := Lib.hid (HW6.out.trans hg7)
        have HS7 := Lib.hid hs7
        obtain ⟨A7, n7, c7, rfl⟩ := hs7.shape
        clear hs7 hg7
        try clear hccl
        go_wp2_with fail
        refine (HPL.out w7 HW7.out).mono ?_
        rintro e w8 ⟨v8, rfl, hs8, hg8⟩
        have HW8 : Hid (w5.drew.grownBy w8 none) := Lib.hid (HW7.out.trans hg8)
        have HN8 := Lib.hid (nums_eq _ _ _ _ _ w8 (HS7.out.kept hg8) hs8)
        obtain ⟨A8, n8, c8, rfl⟩ := hs8.shape
        clear hs8 hg8 HS7
        go_wp2_with fail
        refine HN8.out.mono ?_
        rintro e w9 ⟨rfl, n9, rfl⟩
        have HW9 : Hid (w5.drew.grownBy (w8.drewN n9) none) := Lib.hid (HW8.out.trans (grown_drewN' w8 n9))
        obtain ⟨w9, hw9⟩ : ∃ z, z = w8.drewN n9 := ⟨_, rfl⟩
        rw [← hw9] at HW9 ⊢
        clear hw9 HN8
        go_wp2_with fail
        refine (HP1.out w9 HW9.out).mono ?_
        rintro e w10 ⟨v10, rfl, hs10, hg10⟩
        have HW10 : Hid (w5.drew.grownBy w10 none) := Lib.hid (HW9.out.trans hg10)
        have HS10 := Lib.hid hs10
        obtain ⟨A10, n10, c10, rfl⟩ := hs10.shape
        clear hs10 hg10
        go_wp2_with fail
        refine (HP2.out w10 HW10.out).mono ?_
        rintro e w11 ⟨v11, rfl, hs11, hg11⟩
        have HW11 : Hid (w5.drew.grownBy w11 none) := Lib.hid (HW10.out.trans hg11)
        have HN11 := Lib.hid (nums_eq _ _ _ _ _ w11 (HS10.out.kept hg11) hs11)
        obtain ⟨A11, n11, c11, rfl⟩ := hs11.shape
        clear hs11 hg11 HS10
        go_wp2_with fail
        refine HN11.out.mono ?_
        rintro e w12 ⟨rfl, n12, rfl⟩
        have HW12 : Hid (w5.drew.grownBy (w11.drewN n12) none) := Lib.hid (HW11.out.trans (grown_drewN' w11 n12))
        obtain ⟨w12, hw12⟩ : ∃ z, z = w11.drewN n12 := ⟨_, rfl⟩
        rw [← hw12] at HW12 ⊢
        clear hw12 HN11
        go_wp2_with fail
        refine (HC1.out w12 HW12.out).mono ?_
        rintro e w13 ⟨v13, rfl, hs13, hg13⟩
        have HW13 : Hid (w5.drew.grownBy w13 none) := Lib.hid (HW12.out.trans hg13)
        have HS13 := Lib.hid hs13
        obtain ⟨A13, n13, c13, rfl⟩ := hs13.shape
        clear hs13 hg13
        go_wp2_with fail
        refine (HC2.out w13 HW13.out).mono ?_
        rintro e w14 ⟨v14, rfl, hs14, hg14⟩
        have HW14 : Hid (w5.drew.grownBy w14 none) := Lib.hid (HW13.out.trans hg14)
        have HN14 := Lib.hid (nums_eq _ _ _ _ _ w14 (HS13.out.kept hg14) hs14)
        obtain ⟨A14, n14, c14, rfl⟩ := hs14.shape
        clear hs14 hg14 HS13
        go_wp2_with fail
        refine HN14.out.mono ?_
        rintro e w15 ⟨rfl, n15, rfl⟩
        have HW15 : Hid (w.grownBy (w14.drewN n15) none) := Lib.hid (HGZ.out.trans (HW14.out.trans (grown_drewN' w14 n15)))
        obtain ⟨w15, hw15⟩ : ∃ z, z = w14.drewN n15 := ⟨_, rfl⟩
        rw [← hw15] at HW15 ⊢
        clear hw15 HN14
        go_wp2
        go_ret
        exact ⟨rfl, HW15.out⟩
      · try (injection e with e1 e2 e3; subst e1 e2 e3)
        try subst e
        first | (have hyJ : (0 : Int) < (nm : Int) := by omega) | (have hyJ : ¬ ((0 : Int) < (nm : Int)) := by omega)
        have hyI : (0 : Int) ≤ (nm : Int) := Int.natCast_nonneg nm
        clear hy
        go_wp2_with fail
        refine (HPK.out w6 HW6.out).mono ?_
        rintro e w7 ⟨v7, rfl, hs7, hg7⟩
        have HW7 : Hid (w5.drew.grownBy w7 none) := Lib.hid (HW6.out.trans hg7)
        have HS7 := Lib.hid hs7
        obtain ⟨A7, n7, c7, rfl⟩ := hs7.shape
        clear hs7 hg7
        try clear hccl
        go_wp2_with fail
        refine (HPL.out w7 HW7.out).mono ?_
        rintro e w8 ⟨v8, rfl, hs8, hg8⟩
        have HW8 : Hid (w5.drew.grownBy w8 none) := Lib.hid (HW7.out.trans hg8)
        have HN8 := Lib.hid (nums_eq _ _ _ _ _ w8 (HS7.out.kept hg8) hs8)
        obtain ⟨A8, n8, c8, rfl⟩ := hs8.shape
        clear hs8 hg8 HS7
        go_wp2_with fail
        refine HN8.out.mono ?_
        rintro e w9 ⟨rfl, n9, rfl⟩
        have HW9 : Hid (w5.drew.grownBy (w8.drewN n9) none) := Lib.hid (HW8.out.trans (grown_drewN' w8 n9))
        obtain ⟨w9, hw9⟩ : ∃ z, z = w8.drewN n9 := ⟨_, rfl⟩
        rw [← hw9] at HW9 ⊢
        clear hw9 HN8
        go_wp2_with fail
        refine (HP1.out w9 HW9.out).mono ?_
        rintro e w10 ⟨v10, rfl, hs10, hg10⟩
        have HW10 : Hid (w5.drew.grownBy w10 none) := Lib.hid (HW9.out.trans hg10)
        have HS10 := Lib.hid hs10
        obtain ⟨A10, n10, c10, rfl⟩ := hs10.shape
        clear hs10 hg10
        go_wp2_with fail
        refine (HP2.out w10 HW10.out).mono ?_
        rintro e w11 ⟨v11, rfl, hs11, hg11⟩
        have HW11 : Hid (w5.drew.grownBy w11 none) := Lib.hid (HW10.out.trans hg11)
        have HN11 := Lib.hid (nums_eq _ _ _ _ _ w11 (HS10.out.kept hg11) hs11)
        obtain ⟨A11, n11, c11, rfl⟩ := hs11.shape
        clear hs11 hg11 HS10
        go_wp2_with fail
        refine HN11.out.mono ?_
        rintro e w12 ⟨rfl, n12, rfl⟩
        have HW12 : Hid (w5.drew.grownBy (w11.drewN n12) none) := Lib.hid (HW11.out.trans (grown_drewN' w11 n12))
        obtain ⟨w12, hw12⟩ : ∃ z, z = w11.drewN n12 := ⟨_, rfl⟩
        rw [← hw12] at HW12 ⊢
        clear hw12 HN11
        go_wp2_with fail
        refine (HC1.out w12 HW12.out).mono ?_
        rintro e w13 ⟨v13, rfl, hs13, hg13⟩
        have HW13 : Hid (w5.drew.grownBy w13 none) := Lib.hid (HW12.out.trans hg13)
        have HS13 := Lib.hid hs13
        obtain ⟨A13, n13, c13, rfl⟩ := hs13.shape
        clear hs13 hg13
        go_wp2_with fail
        refine (HC2.out w13 HW13.out).mono ?_
        rintro e w14 ⟨v14, rfl, hs14, hg14⟩
        have HW14 : Hid (w5.drew.grownBy w14 none) := Lib.hid (HW13.out.trans hg14)
        have HN14 := Lib.hid (nums_eq _ _ _ _ _ w14 (HS13.out.kept hg14) hs14)
        obtain ⟨A14, n14, c14, rfl⟩ := hs14.shape
        clear hs14 hg14 HS13
        go_wp2_with fail
        refine HN14.out.mono ?_
        rintro e w15 ⟨rfl, n15, rfl⟩
        have HW15 : Hid (w.grownBy (w14.drewN n15) none) := Lib.hid (HGZ.out.trans (HW14.out.trans (grown_drewN' w14 n15)))
        obtain ⟨w15, hw15⟩ : ∃ z, z = w14.drewN n15 := ⟨_, rfl⟩
        rw [← hw15] at HW15 ⊢
        clear hw15 HN14
        go_wp2
        go_ret
        exact ⟨rfl, HW15.out⟩
end Go.Proofs.Ytphbcfpiklmmeaa
