/- consistorylaw18.DealMakes, walked: whatever is dealt, and how many draws that takes, is the document's (printed by mkt.py). -/
import Derived.Test.YtphbcfpiklmmeaaGreatDoorZ7
namespace Go.Proofs.YtphbcfpiklmmeaaGreatDoor
open Go Go.RowKit Go.Shelf

theorem mk_sl_is {X : Nat → Prop} {w : World} {v : Value} {l : List Int} (h : Sl encU X w v l) : SlIs w v l := by
  obtain ⟨A, c, e, h1, h2, h3⟩ := h
  refine ⟨A, c, e, fun hn => ?_, h1, h2⟩
  obtain ⟨g, o, eA, lt, _, hi⟩ := h3 (fun e => hn (by rw [e]; rfl))
  refine ⟨g, o, eA, lt, fun j u hu => ?_⟩
  have hj : j < l.length := by
    rcases Nat.lt_or_ge j l.length with h | h
    · exact h
    · simp [nums, List.getElem?_eq_none h] at hu
  obtain ⟨cs, ⟨e1, _⟩, hc⟩ := hi j hj
  have := hc 0 (.int .u64 l[j]) (by rw [e1]; rfl)
  have hu2 : u = .int .u64 l[j] := by simp [nums, hj] at hu; exact hu.symm
  rw [hu2]
  simpa [encU] using this
theorem mk_next_nil (q : Int) (w : World) : Calls Tryz.prog 30 #[.pointer none, .int .u64 q] w fun e w' => e = .returned (.int .u64 0) ∧ w' = w := by
  go_enter Tryz.func30, Tryz.ntmps30
  go_wp2
  go_ret
  exact ⟨rfl, rfl⟩
theorem mk_at (b : Nat) (d : Int) (w : World) (hc : w.cell? ⟨b, 2, none⟩ = some (.int .i64 d)) :
    Calls Tryz.prog 11 #[.pointer (some ⟨b, 0, none⟩)] w fun e w' => e = .returned (.int .i64 d) ∧ w' = w := by
  go_enter Tryz.func11, Tryz.ntmps11
  go_wp2
  go_ret
  exact ⟨rfl, rfl⟩
theorem tapeIs_n {w : World} {b ga : Nat} {T : TS} (h : TapeIs w b ga T) : w.cell? ⟨b, 2, none⟩ = some (.int .i64 T.d) := by
  obtain ⟨A, c, hk, _⟩ := h
  simpa using hk.cell 2
theorem rtapeIs_n {w : World} {b ga : Nat} {T : TS} (h : RTapeIs w b ga T) : w.cell? ⟨b, 2, none⟩ = some (.int .i64 T.d) := by
  obtain ⟨A, c, hk, _⟩ := h
  simpa using hk.cell 2
set_option maxRecDepth 100000 in
set_option maxHeartbeats 8000000 in
theorem dealMakes_any (p : Par) (vs vh vf : Value) (ls : List Int) (lh : List (Int × Int)) (n : Int) (lf : List Int) (seed : Int) (w : World) (hp : p.ok) (h1 : Sl encU TT w vs ls) (h2 : Sl encP TT w vh lh) (h3 : Sl encU TT w vf lf) (hse : U64 seed) (b1 : ls.length ≤ 17592186044415) (b2 : lh.length ≤ 17592186044415) (hTab : TabsAt w) :
    Calls Tryz.prog 3 #[p.v, vs, vh, .int .i64 n, vf, .int .u64 seed] w fun e w' => e = .returned (.bool true) ∧ w.grownBy w' none := by
  obtain ⟨A1, c1, rfl, k1, l1⟩ := h1.form
  obtain ⟨A2, c2, rfl, k2, l2⟩ := h2.form
  obtain ⟨A3, c3, rfl, k3, l3⟩ := h3.form
  have HG0 : Hid (w.grownBy (w.alloc (Obj.cells p.cells 24)) none) := Lib.hid (World.grownBy_alloc w _ none)
  by_cases hg : (ls.length : Int) + (lh.length : Int) > 100
  · obtain ⟨n1, hn1⟩ : ∃ y, y = ls.length := ⟨_, rfl⟩
    obtain ⟨n2, hn2⟩ : ∃ y, y = lh.length := ⟨_, rfl⟩
    obtain ⟨n3, hn3⟩ : ∃ y, y = lf.length := ⟨_, rfl⟩
    rw [← hn1] at hg b1 ⊢
    rw [← hn2] at hg b2 ⊢
    rw [← hn3]
    have e1 : IntKind.i64.wrap ((n1 : Int) + (n2 : Int)) = (n1 : Int) + (n2 : Int) := IntWalk.i64_in _ (by omega)
    have hd : decide ((n1 : Int) + (n2 : Int) > 100) = true := by simpa using hg
    clear h1 h2 h3 hp hTab hn1 hn2 hn3 k1 k2 k3 hg
    go_enter Tryz.func3, Tryz.ntmps3
    go_wp2
    go_ret
    exact ⟨rfl, HG0.out⟩
  · by_cases hf : (lf.length : Int) > 1000
    · obtain ⟨n1, hn1⟩ : ∃ y, y = ls.length := ⟨_, rfl⟩
      obtain ⟨n2, hn2⟩ : ∃ y, y = lh.length := ⟨_, rfl⟩
      obtain ⟨n3, hn3⟩ : ∃ y, y = lf.length := ⟨_, rfl⟩
      rw [← hn1] at hg b1 ⊢
      rw [← hn2] at hg b2 ⊢
      rw [← hn3] at hf ⊢
      have e1 : IntKind.i64.wrap ((n1 : Int) + (n2 : Int)) = (n1 : Int) + (n2 : Int) := IntWalk.i64_in _ (by omega)
      have hd : decide ((n1 : Int) + (n2 : Int) > 100) = false := by simpa using hg
      have hd2 : decide ((n3 : Int) > 1000) = true := by simpa using hf
      clear h1 h2 h3 hp hTab hn1 hn2 hn3 k1 k2 k3 hg hf
      go_enter Tryz.func3, Tryz.ntmps3
      go_wp2
      go_ret
      exact ⟨rfl, HG0.out⟩
    · have HP := Lib.hid hp
      have HSE := Lib.hid hse
      have HQ := Lib.hid hp.Q
      have HTab := Lib.hid hTab
      have HLN : Hid (ls.length ≤ 100 ∧ lh.length ≤ 100 ∧ lf.length ≤ 1000) := Lib.hid (by omega)
      have H1 := Lib.hid h1
      have H2 := Lib.hid h2
      have H3 := Lib.hid h3
      obtain ⟨n1, hn1⟩ : ∃ y, y = ls.length := ⟨_, rfl⟩
      obtain ⟨n2, hn2⟩ : ∃ y, y = lh.length := ⟨_, rfl⟩
      obtain ⟨n3, hn3⟩ : ∃ y, y = lf.length := ⟨_, rfl⟩
      have HN := Lib.hid (And.intro hn1 (And.intro hn2 hn3))
      rw [← hn1] at hg b1 ⊢
      rw [← hn2] at hg b2 ⊢
      rw [← hn3] at hf ⊢
      rw [← hn1] at H1
      rw [← hn2] at H2
      rw [← hn3] at H3
      have e1 : IntKind.i64.wrap ((n1 : Int) + (n2 : Int)) = (n1 : Int) + (n2 : Int) := IntWalk.i64_in _ (by omega)
      have hd : decide ((n1 : Int) + (n2 : Int) > 100) = false := by simpa using hg
      have hd2 : decide ((n3 : Int) > 1000) = false := by simpa using hf
      obtain ⟨w0, hw0⟩ : ∃ y, y = w.alloc (Obj.cells p.cells 24) := ⟨_, rfl⟩
      have HG0 : Hid (w.grownBy w0 none) := Lib.hid (by rw [hw0]; exact World.grownBy_alloc w _ none)
      have HZ0 : Hid (w0.heap.size = w.heap.size + 1) := Lib.hid (by rw [hw0]; exact World.size_alloc _ _)
      have HB0 : Hid (Bk w0 w.heap.size 24 p.cells) := Lib.hid (by rw [hw0]; exact Bk.new w _ _)
      have HW0 : Hid (∀ W, w0.grownBy W none → Sl encU TT W (.slice A1 n1 c1) ls ∧ Sl encP TT W (.slice A2 n2 c2) lh ∧ Sl encU TT W (.slice A3 n3 c3) lf ∧ TabsAt W) := Lib.hid (fun W hW => ⟨H1.out.kept (HG0.out.trans hW), H2.out.kept (HG0.out.trans hW), H3.out.kept (HG0.out.trans hW), HTab.out.kept (HG0.out.trans hW)⟩)
      have HCB : Hid (ls.length * 8 ≤ 140737488355328 ∧ lh.length * 16 ≤ 140737488355328) := Lib.hid (by have := HLN.out; omega)
      clear h1 h2 h3 hp hTab hn1 hn2 hn3 k1 k2 k3 hg hf hse b1 b2
      go_enter Tryz.func3, Tryz.ntmps3
      go_wp2_with (at_builtin; rw [← hw0]; refine wpList_copyG rfl (.tmp 38) (.tmp 39) rfl (E := encU) (Y := TT) (X := TT) (ys := ls) el_u64 (by rw [HZ0.out]; rfl) rfl (HW0.out _ (World.grownBy.refl _ none)).1 HCB.out.1 (fun _ _ => trivial) (fun _ _ _ h => h) ?_)
      intro A4 c4 w4 ha4 hg4
      rw [← hw0] at hg4
      clear hw0
      rw [← HN.out.1] at ha4 ⊢
      have HA4 : Hid (Sl encU (fun b => b < w4.heap.size) w4 (.slice A4 n1 c4) ls) := Lib.hid (ha4.sl.bounded.more fun b _ hb => hb.2)
      have HG4 : Hid (w0.grownBy w4 none) := Lib.hid hg4
      clear ha4 hg4
      go_wp2_with (at_builtin; refine wpList_copyG rfl (.tmp 41) (.tmp 42) rfl (E := encP) (Y := TT) (X := TT) (ys := lh) el_pair rfl rfl (HW0.out _ HG4.out).2.1 HCB.out.2 (fun _ _ => trivial) (fun _ _ _ h => h) ?_)
      intro A5 c5 w5 ha5 hg5
      rw [← HN.out.2.1] at ha5 ⊢
      have HA5 : Hid (Sl encP (fun b => b < w5.heap.size) w5 (.slice A5 n2 c5) lh) := Lib.hid (ha5.sl.bounded.more fun b _ hb => hb.2)
      have HG45 : Hid (w4.grownBy w5 none) := Lib.hid hg5
      have HG5 : Hid (w0.grownBy w5 none) := Lib.hid (HG4.out.trans hg5)
      clear ha5 hg5
      have HOF := Lib.hid (of_made (.slice A3 n3 c3) lf seed w5 (mk_sl_is (HW0.out _ HG5.out).2.2.1) (by have := HLN.out; omega))
      go_wp2_with fail
      refine HOF.out.mono ?_
      rintro e w6 ⟨b, ga, rfl, ht, hb1, hb2, hb3, hg6⟩
      have HT6 : Hid (TapeIs w6 b ga ⟨lf, seed, 0⟩) := Lib.hid ht
      have HGA : Hid (w5.heap.size ≤ b ∧ w5.heap.size ≤ ga ∧ ga < w6.heap.size ∧ b < w6.heap.size) := Lib.hid ⟨hb1, hb2, hb3, ht.lt⟩
      have HG6 : Hid (w0.grownBy w6 none) := Lib.hid (HG5.out.trans hg6)
      have HG56 : Hid (w5.grownBy w6 none) := Lib.hid hg6
      clear ht hb1 hb2 hb3 hg6 HOF
      have HOR := Lib.hid (rof_made (.slice A3 n3 c3) lf seed w6 (mk_sl_is (HW0.out _ HG6.out).2.2.1) (by have := HLN.out; omega))
      go_wp2_with fail
      refine HOR.out.mono ?_
      rintro e w7 ⟨br, gr, rfl, ht, hb1, hb2, hb3, hg7⟩
      have HR7 : Hid (RTapeIs w7 br gr ⟨lf, seed, 0⟩ ∧ gr < w7.heap.size) := Lib.hid ⟨ht, hb3⟩
      have HGR : Hid (w6.heap.size ≤ br ∧ w6.heap.size ≤ gr ∧ gr < w7.heap.size ∧ br < w7.heap.size) := Lib.hid ⟨hb1, hb2, hb3, ht.lt⟩
      have HT7 : Hid (TapeIs w7 b ga ⟨lf, seed, 0⟩ ∧ ga < w7.heap.size) := Lib.hid ⟨HT6.out.grown hg7 (by simp) (by simp), by have := HGA.out; have := hg7.size; omega⟩
      have HG7 : Hid (w0.grownBy w7 none) := Lib.hid (HG6.out.trans hg7)
      have HG57 : Hid (w5.grownBy w7 none) := Lib.hid (HG56.out.trans hg7)
      clear ht hb1 hb2 hb3 hg7 HOR
      obtain ⟨T, hTE⟩ : ∃ T : TS, T = ⟨lf, seed, 0⟩ := ⟨_, rfl⟩
      have HTO : Hid (T.ok ∧ T.d = 0) := Lib.hid (by
        subst hTE
        refine ⟨⟨fun x hx => ?_, HSE.out, Int.le_refl 0, by show (0 : Int) < _; decide⟩, rfl⟩
        obtain ⟨i, hi, rfl⟩ := List.getElem_of_mem hx
        obtain ⟨_, _, _, _, _, _, _, u⟩ := H3.out.atU hi
        exact u)
      rw [← hTE] at HT7 HR7
      have HTP : Hid (Tp b p.Q (fun k => (tsk p.Q T k).val p.Q) (fun k w => TapeIs w b ga (tsk p.Q T k) ∧ ga < w.heap.size) (fun x => x = b ∨ x = ga) 1000000) := Lib.hid (tp_ahead b ga p.Q T HTO.out.1 (by rw [HTO.out.2]; decide) HQ.out)
      have HRP : Hid (RTp (some ⟨br, 0, none⟩) br p.Q (fun k => (tsk p.Q T k).val p.Q) (fun k w => RTapeIs w br gr (tsk p.Q T k) ∧ gr < w.heap.size) (fun x => x = br ∨ x = gr) 1000000) := Lib.hid (rtp_ahead br gr p.Q T HTO.out.1 (by rw [HTO.out.2]; decide) HQ.out)
      obtain ⟨dr, hdr⟩ : ∃ y, y = fun k => (tsk p.Q T k).val p.Q := ⟨_, rfl⟩
      obtain ⟨TI, hTI⟩ : ∃ y, y = fun k w => TapeIs w b ga (tsk p.Q T k) ∧ ga < w.heap.size := ⟨_, rfl⟩
      obtain ⟨RI, hRI⟩ : ∃ y, y = fun k w => RTapeIs w br gr (tsk p.Q T k) ∧ gr < w.heap.size := ⟨_, rfl⟩
      rw [← hdr, ← hTI] at HTP
      rw [← hdr, ← hRI] at HRP
      have HDR : Hid (0 < p.Q → ∀ k, 0 ≤ dr k ∧ dr k < p.Q) := Lib.hid (fun hq k => by rw [hdr]; exact tsk_bd HTO.out.1 hq k)
      have HTI7 : Hid (TI 0 w7) := Lib.hid (by rw [hTI]; exact HT7.out)
      have HRI7 : Hid (RI 0 w7) := Lib.hid (by rw [hRI]; exact HR7.out)
      have HAT : Hid (∀ (k : Nat) W, k ≤ 100000 → TI k W → W.cell? ⟨b, 2, none⟩ = some (.int .i64 (k : Int))) := Lib.hid (fun k W hk h => by
        rw [hTI] at h
        rw [tapeIs_n h.1, (tsk_ok HTO.out.1 k (by rw [HTO.out.2]; omega)).2, HTO.out.2, Int.zero_add])
      have HRN : Hid (∀ (k : Nat) W, k ≤ 100000 → RI k W → W.cell? ⟨br, 2, none⟩ = some (.int .i64 (k : Int))) := Lib.hid (fun k W hk h => by
        rw [hRI] at h
        rw [rtapeIs_n h.1, (tsk_ok HTO.out.1 k (by rw [HTO.out.2]; omega)).2, HTO.out.2, Int.zero_add])
      have HKP : Hid ((∀ k W W' (row : Option Nat), TI k W → W.grownBy W' row → (∀ x, row = some x → x = br) → TI k W') ∧ (∀ k W W' (row : Option Nat), RI k W → W.grownBy W' row → (∀ x, row = some x → x = b) → RI k W')) := Lib.hid (by
        have g1 := HGA.out
        have g2 := HGR.out
        exact ⟨fun k W W' row h hg hr => HTP.out.keep h hg (fun x e hx => by have := hr x e; omega), fun k W W' row h hg hr => HRP.out.keep h hg (fun x e hx => by have := hr x e; omega)⟩)
      have HKM : Hid (moK p ls ≤ 50) := Lib.hid (moK_le p ls)
      have HKA : Hid (maK p lh n ≤ 160) := Lib.hid (maK_le p lh n)
      have HIN : Hid (∀ W, w5.grownBy W none → Sl encU (fun x => x < w5.heap.size) W (.slice A1 n1 c1) ls ∧ Sl encP (fun x => x < w5.heap.size) W (.slice A2 n2 c2) lh ∧ Sl encU (fun x => x < w5.heap.size) W (.slice A4 n1 c4) ls ∧ Sl encP (fun x => x < w5.heap.size) W (.slice A5 n2 c5) lh ∧ TabsAt W ∧ Bk W w.heap.size 24 p.cells) := Lib.hid (fun W hW => by
        have h0 := HW0.out w0 (World.grownBy.refl _ none)
        have z1 := HG5.out.size
        have z2 := HG45.out.size
        exact ⟨(h0.1.bounded.kept (HG5.out.trans hW)).more fun x _ hx => by have := hx.2; omega, (h0.2.1.bounded.kept (HG5.out.trans hW)).more fun x _ hx => by have := hx.2; omega, (HA4.out.kept (HG45.out.trans hW)).more fun x _ hx => by omega, HA5.out.kept hW, (HW0.out W (HG5.out.trans hW)).2.2.2, HB0.out.grown (HG5.out.trans hW) (by simp)⟩)
      have HUP : Hid (∀ W W' (row : Option Nat), w5.grownBy W none → W.grownBy W' row → (∀ x, row = some x → w5.heap.size ≤ x) → w5.grownBy W' none) := Lib.hid (fun W W' row h1 h2 h3 => grown_up h1 h2 (fun x e => h3 x e))
      have HBN : Hid (w5.heap.size ≤ b ∧ w5.heap.size ≤ br ∧ b ≠ br ∧ b < w7.heap.size ∧ br < w7.heap.size ∧ w.heap.size < w5.heap.size) := Lib.hid (by
        have g1 := HGA.out
        have g2 := HGR.out
        have g3 := HB0.out.lt
        have g4 := HG5.out.size
        have g5 := HG56.out.size
        omega)
      clear hTE hdr hTI hRI HT7 HR7 HT6 HTO HSE H1 H2 H3 HW0 HA4 HA5 HG45 HG56 HGA HGR HB0
      have HX5 : Hid (∀ x, x < w5.heap.size → x ≠ b ∧ x ≠ br) := Lib.hid (fun x hx => by have := HBN.out; omega)
      have hp7 := (HIN.out w7 HG57.out).2.2.2.2.2.prule
      have HM7 := Lib.hid (dmodel_all p (.slice A4 n1 c4) ls _ w7 HTP.out HP.out (HIN.out w7 HG57.out).2.2.2.2.1 (HIN.out w7 HG57.out).2.2.1 (fun x hx => (HX5.out x hx).1) 0 (by decide) HTI7.out)
      go_wp2_with fail
      refine HM7.out.mono ?_
      rintro e w8 ⟨v1, v2, rfl, s1, s2, hi8, hg8⟩
      obtain ⟨B1, m1, f1, rfl⟩ := s1.shape
      obtain ⟨B2, m2, f2, rfl⟩ := s2.shape
      have HS1 := Lib.hid s1
      have HS2 := Lib.hid s2
      have HG58 : Hid (w5.grownBy w8 none) := Lib.hid (HUP.out w7 w8 _ HG57.out hg8 (fun x e => by injection e with e; have := HBN.out; omega))
      have HTI8 : Hid (TI (moK p ls) w8) := Lib.hid (by rw [Nat.zero_add] at hi8; exact hi8)
      have HRI8 : Hid (RI 0 w8) := Lib.hid (HKP.out.2 _ _ _ _ HRI7.out hg8 (fun x e => by injection e with e; exact e.symm))
      have HZ8 : Hid (w7.heap.size ≤ w8.heap.size) := Lib.hid hg8.size
      clear s1 s2 hi8 hg8 HM7 hp7
      have hp8 := (HIN.out w8 HG58.out).2.2.2.2.2.prule
      have HM8 := Lib.hid (rmodel_all p (.slice A1 n1 c1) ls _ w8 HRP.out HDR.out HP.out (HIN.out w8 HG58.out).1 (fun x hx => (HX5.out x hx).2) 0 (by decide) HRI8.out)
      go_wp2_with fail
      refine HM8.out.mono ?_
      rintro e w9 ⟨v3, v4, rfl, s3, s4, hi9, hg9⟩
      obtain ⟨B3, m3, f3, rfl⟩ := s3.shape
      obtain ⟨B4, m4, f4, rfl⟩ := s4.shape
      have HS3 := Lib.hid s3
      have HS4 := Lib.hid s4
      have HG9 : Hid (w5.grownBy w9.drew none) := Lib.hid (HUP.out w8 w9.drew (some br) HG58.out (hg9.trans ((grown_drewN' w9 1).but _)) (fun x e => by injection e with e; have := HBN.out; omega))
      have HTI9 : Hid (TI (moK p ls) w9.drew) := Lib.hid (HKP.out.1 _ _ _ _ HTI8.out (hg9.trans ((grown_drewN' w9 1).but _)) (fun x e => by injection e with e; exact e.symm))
      have HRI9 : Hid (RI (moK p ls) w9.drew) := Lib.hid (HKP.out.2 _ _ _ none (by rw [Nat.zero_add] at hi9; exact hi9) (grown_drewN' w9 1) (fun x e => by cases e))
      have HBW : Hid (∀ x, w7.heap.size ≤ x → x ≠ b ∧ x ≠ br) := Lib.hid (fun x hx => by have := HBN.out; omega)
      have HSS : Hid (∀ W, w9.drew.grownBy W none → Calls Tryz.prog 9 #[.slice B1 m1 f1, .slice B3 m3 f3] W (Quietly W (.bool true))) := Lib.hid (fun W hW => shares_eq _ _ _ _ _ W (((HS1.out.keep hg9 (fun x hx e => by injection e with e; exact (HBW.out x hx).2 e)).kept (grown_drewN' w9 1)).kept hW) ((HS3.out.kept (grown_drewN' w9 1)).kept hW))
      have HLS : Hid (∀ W, w9.drew.grownBy W none → Calls Tryz.prog 10 #[.slice B2 m2 f2, .slice B4 m4 f4] W (Quietly W (.bool true))) := Lib.hid (fun W hW => lists_eq _ _ _ _ _ W (((HS2.out.keep hg9 (fun x hx e => by injection e with e; exact (HBW.out x hx).2 e)).kept (grown_drewN' w9 1)).kept hW) ((HS4.out.kept (grown_drewN' w9 1)).kept hW))
      have HAT9 : Hid (∀ W, w9.drew.grownBy W none → Calls Tryz.prog 11 #[.pointer (some ⟨b, 0, none⟩)] W fun e w' => e = .returned (.int .i64 (moK p ls : Nat)) ∧ w' = W) := Lib.hid (fun W hW => mk_at b _ W (HAT.out _ W (by have := HKM.out; omega) (HKP.out.1 _ _ _ none HTI9.out hW (fun x e => by cases e))))
      have HLD9 : Hid (∀ W, w9.drew.grownBy W none → W.cell? ⟨br, 2, none⟩ = some (.int .i64 (moK p ls : Nat))) := Lib.hid (fun W hW => HRN.out _ W (by have := HKM.out; omega) (HKP.out.2 _ _ _ none HRI9.out hW (fun x e => by cases e)))
      have HZ9 : Hid (w7.heap.size ≤ w9.drew.heap.size) := Lib.hid (Nat.le_trans HZ8.out hg9.size)
      obtain ⟨E1, hE1⟩ : ∃ y, y = moE p ls := ⟨_, rfl⟩
      obtain ⟨K1, hK1⟩ : ∃ y, y = moK p ls := ⟨_, rfl⟩
      rw [← hE1]
      rw [← hK1] at HAT9 HLD9 HTI9 HRI9 HKM
      clear s3 s4 hi9 hg9 HM8 hp8 hE1 hK1 HS1 HS2 HS3 HS4 HTI8 HRI8 HG58 HTI7 HRI7
      go_upto_region 8 with (fail)
      refine wp_region_mono 24 (by kernel_rfl) (by kernel_rfl) ?_
      -- op 0 (slot 66): move
      refine MonoR.step (Pv.eq (.int .i64 E1)) [] (by kernel_rfl) (fun w' hw' => ?_) ?_
      · refine ask_do rfl fun K hK => ?_
        go_simp
        exact hK _ _ rfl rfl (World.grownBy.refl _ none)
      -- op 1 (slot 67): move
      refine MonoR.step (Pv.eq (.int .i64 E1)) [] (by kernel_rfl) (fun w' hw' => ?_) ?_
      · refine ask_do rfl fun K hK => ?_
        go_simp
        exact hK _ _ rfl rfl (World.grownBy.refl _ none)
      -- op 2 (slot 68): binOp
      refine MonoR.step (Pv.eq (.bool false)) [(0, 66), (1, 67)] (by kernel_rfl) (fun w' hw' => ?_) ?_
      · intro x66 h66
        intro x67 h67
        have e66 : x66 = .int .i64 E1 := h66
        clear h66
        subst e66
        have e67 : x67 = .int .i64 E1 := h67
        clear h67
        subst e67
        refine ask_do rfl fun K hK => ?_
        go_simp
        exact hK _ _ rfl rfl (World.grownBy.refl _ none)
      -- op 3 (slot 69): move
      refine MonoR.step (Pv.eq (.bool false)) [(2, 68)] (by kernel_rfl) (fun w' hw' => ?_) ?_
      · intro x68 h68
        have e68 : x68 = .bool false := h68
        clear h68
        subst e68
        refine ask_do rfl fun K hK => ?_
        go_simp
        exact hK _ _ rfl rfl (World.grownBy.refl _ none)
      -- op 4 (slot 70): move [(3, 'false')]
      refine MonoR.step (Pv.eq (.slice B1 m1 f1)) [(3, 69)] (by kernel_rfl) (fun w' hw' => ?_) ?_
      · intro x69 h69
        have e69 : x69 = .bool false := h69
        clear h69
        subst e69
        refine ask_do (by kernel_rfl) fun K hK => ?_
        go_simp
        exact hK _ _ rfl rfl (World.grownBy.refl _ none)
      -- op 5 (slot 71): move [(3, 'false')]
      refine MonoR.step (Pv.eq (.slice B3 m3 f3)) [(3, 69)] (by kernel_rfl) (fun w' hw' => ?_) ?_
      · intro x69 h69
        have e69 : x69 = .bool false := h69
        clear h69
        subst e69
        refine ask_do (by kernel_rfl) fun K hK => ?_
        go_simp
        exact hK _ _ rfl rfl (World.grownBy.refl _ none)
      -- op 6 (slot 72): call [(3, 'false')]
      refine MonoR.step (Pv.eq (.bool true)) [(3, 69), (4, 70), (5, 71)] (by kernel_rfl) (fun w' hw' => ?_) ?_
      · intro x69 h69
        intro x70 h70
        intro x71 h71
        have e69 : x69 = .bool false := h69
        clear h69
        subst e69
        have e70 : x70 = .slice B1 m1 f1 := h70
        clear h70
        subst e70
        have e71 : x71 = .slice B3 m3 f3 := h71
        clear h71
        subst e71
        refine ask_do (by kernel_rfl) fun K hK => ?_
        go_simp
        refine (HSS.out w' hw').mono ?_
        rintro e w3 ⟨rfl, n3, rfl⟩
        exact hK _ _ rfl rfl (grown_drewN' w' n3)
      -- op 7 (slot 73): unOp [(3, 'false')]
      refine MonoR.step (Pv.eq (.bool false)) [(3, 69), (6, 72)] (by kernel_rfl) (fun w' hw' => ?_) ?_
      · intro x69 h69
        intro x72 h72
        have e69 : x69 = .bool false := h69
        clear h69
        subst e69
        have e72 : x72 = .bool true := h72
        clear h72
        subst e72
        refine ask_do (by kernel_rfl) fun K hK => ?_
        go_simp
        exact hK _ _ rfl rfl (World.grownBy.refl _ none)
      -- op 8 (slot 74): pick
      refine MonoR.step (Pv.eq (.bool false)) [(3, 69), (7, 73)] (by kernel_rfl) (fun w' hw' => ?_) ?_
      · intro x69 h69
        intro x73 h73
        have e69 : x69 = .bool false := h69
        clear h69
        subst e69
        have e73 : x73 = .bool false := h73
        clear h73
        subst e73
        refine ask_do rfl fun K hK => ?_
        go_simp
        exact hK _ _ rfl rfl (World.grownBy.refl _ none)
      -- op 9 (slot 75): move
      refine MonoR.step (Pv.eq (.bool false)) [(8, 74)] (by kernel_rfl) (fun w' hw' => ?_) ?_
      · intro x74 h74
        have e74 : x74 = .bool false := h74
        clear h74
        subst e74
        refine ask_do rfl fun K hK => ?_
        go_simp
        exact hK _ _ rfl rfl (World.grownBy.refl _ none)
      -- op 10 (slot 76): move [(9, 'false')]
      refine MonoR.step (Pv.eq (.slice B2 m2 f2)) [(9, 75)] (by kernel_rfl) (fun w' hw' => ?_) ?_
      · intro x75 h75
        have e75 : x75 = .bool false := h75
        clear h75
        subst e75
        refine ask_do (by kernel_rfl) fun K hK => ?_
        go_simp
        exact hK _ _ rfl rfl (World.grownBy.refl _ none)
      -- op 11 (slot 77): move [(9, 'false')]
      refine MonoR.step (Pv.eq (.slice B4 m4 f4)) [(9, 75)] (by kernel_rfl) (fun w' hw' => ?_) ?_
      · intro x75 h75
        have e75 : x75 = .bool false := h75
        clear h75
        subst e75
        refine ask_do (by kernel_rfl) fun K hK => ?_
        go_simp
        exact hK _ _ rfl rfl (World.grownBy.refl _ none)
      -- op 12 (slot 78): call [(9, 'false')]
      refine MonoR.step (Pv.eq (.bool true)) [(9, 75), (10, 76), (11, 77)] (by kernel_rfl) (fun w' hw' => ?_) ?_
      · intro x75 h75
        intro x76 h76
        intro x77 h77
        have e75 : x75 = .bool false := h75
        clear h75
        subst e75
        have e76 : x76 = .slice B2 m2 f2 := h76
        clear h76
        subst e76
        have e77 : x77 = .slice B4 m4 f4 := h77
        clear h77
        subst e77
        refine ask_do (by kernel_rfl) fun K hK => ?_
        go_simp
        refine (HLS.out w' hw').mono ?_
        rintro e w3 ⟨rfl, n3, rfl⟩
        exact hK _ _ rfl rfl (grown_drewN' w' n3)
      -- op 13 (slot 79): unOp [(9, 'false')]
      refine MonoR.step (Pv.eq (.bool false)) [(9, 75), (12, 78)] (by kernel_rfl) (fun w' hw' => ?_) ?_
      · intro x75 h75
        intro x78 h78
        have e75 : x75 = .bool false := h75
        clear h75
        subst e75
        have e78 : x78 = .bool true := h78
        clear h78
        subst e78
        refine ask_do (by kernel_rfl) fun K hK => ?_
        go_simp
        exact hK _ _ rfl rfl (World.grownBy.refl _ none)
      -- op 14 (slot 80): pick
      refine MonoR.step (Pv.eq (.bool false)) [(9, 75), (13, 79)] (by kernel_rfl) (fun w' hw' => ?_) ?_
      · intro x75 h75
        intro x79 h79
        have e75 : x75 = .bool false := h75
        clear h75
        subst e75
        have e79 : x79 = .bool false := h79
        clear h79
        subst e79
        refine ask_do rfl fun K hK => ?_
        go_simp
        exact hK _ _ rfl rfl (World.grownBy.refl _ none)
      -- op 15 (slot 81): move
      refine MonoR.step (Pv.eq (.bool false)) [(14, 80)] (by kernel_rfl) (fun w' hw' => ?_) ?_
      · intro x80 h80
        have e80 : x80 = .bool false := h80
        clear h80
        subst e80
        refine ask_do rfl fun K hK => ?_
        go_simp
        exact hK _ _ rfl rfl (World.grownBy.refl _ none)
      -- op 16 (slot 82): move [(15, 'false')]
      refine MonoR.step (Pv.eq (.pointer (some ⟨b, 0, none⟩))) [(15, 81)] (by kernel_rfl) (fun w' hw' => ?_) ?_
      · intro x81 h81
        have e81 : x81 = .bool false := h81
        clear h81
        subst e81
        refine ask_do (by kernel_rfl) fun K hK => ?_
        go_simp
        exact hK _ _ rfl rfl (World.grownBy.refl _ none)
      -- op 17 (slot 83): call [(15, 'false')]
      refine MonoR.step (Pv.eq (.int .i64 (K1 : Int))) [(15, 81), (16, 82)] (by kernel_rfl) (fun w' hw' => ?_) ?_
      · intro x81 h81
        intro x82 h82
        have e81 : x81 = .bool false := h81
        clear h81
        subst e81
        have e82 : x82 = .pointer (some ⟨b, 0, none⟩) := h82
        clear h82
        subst e82
        refine ask_do (by kernel_rfl) fun K hK => ?_
        go_simp
        refine (HAT9.out w' hw').mono ?_
        rintro e w3 ⟨rfl, rfl⟩
        exact hK _ _ rfl rfl (World.grownBy.refl _ none)
      -- op 18 (slot 84): move [(15, 'false')]
      refine MonoR.step (Pv.eq (.pointer (some ⟨br, 0, none⟩))) [(15, 81)] (by kernel_rfl) (fun w' hw' => ?_) ?_
      · intro x81 h81
        have e81 : x81 = .bool false := h81
        clear h81
        subst e81
        refine ask_do (by kernel_rfl) fun K hK => ?_
        go_simp
        exact hK _ _ rfl rfl (World.grownBy.refl _ none)
      -- op 19 (slot 85): nilCheck [(15, 'false')]
      refine MonoR.step (Pv.eq (.pointer (some ⟨br, 0, none⟩))) [(15, 81), (18, 84)] (by kernel_rfl) (fun w' hw' => ?_) ?_
      · intro x81 h81
        intro x84 h84
        have e81 : x81 = .bool false := h81
        clear h81
        subst e81
        have e84 : x84 = .pointer (some ⟨br, 0, none⟩) := h84
        clear h84
        subst e84
        refine ask_do (by kernel_rfl) fun K hK => ?_
        go_simp
        exact hK _ _ rfl rfl (World.grownBy.refl _ none)
      -- op 20 (slot 86): fieldAddr [(15, 'false')]
      refine MonoR.step (Pv.eq (.pointer (some ⟨br, 2, none⟩))) [(15, 81), (19, 85)] (by kernel_rfl) (fun w' hw' => ?_) ?_
      · intro x81 h81
        intro x85 h85
        have e81 : x81 = .bool false := h81
        clear h81
        subst e81
        have e85 : x85 = .pointer (some ⟨br, 0, none⟩) := h85
        clear h85
        subst e85
        refine ask_do (by kernel_rfl) fun K hK => ?_
        go_simp
        exact hK _ _ rfl rfl (World.grownBy.refl _ none)
      -- op 21 (slot 87): load [(15, 'false')]
      refine MonoR.step (Pv.eq (.int .i64 (K1 : Int))) [(15, 81), (20, 86)] (by kernel_rfl) (fun w' hw' => ?_) ?_
      · intro x81 h81
        intro x86 h86
        have e81 : x81 = .bool false := h81
        clear h81
        subst e81
        have e86 : x86 = .pointer (some ⟨br, 2, none⟩) := h86
        clear h86
        subst e86
        refine ask_do (by kernel_rfl) fun K hK => ?_
        have q0 := HLD9.out w' hw'
        go_simp
        exact hK _ _ rfl rfl (World.grownBy.refl _ none)
      -- op 22 (slot 88): binOp [(15, 'false')]
      refine MonoR.step (Pv.eq (.bool false)) [(15, 81), (17, 83), (21, 87)] (by kernel_rfl) (fun w' hw' => ?_) ?_
      · intro x81 h81
        intro x83 h83
        intro x87 h87
        have e81 : x81 = .bool false := h81
        clear h81
        subst e81
        have e83 : x83 = .int .i64 (K1 : Int) := h83
        clear h83
        subst e83
        have e87 : x87 = .int .i64 (K1 : Int) := h87
        clear h87
        subst e87
        refine ask_do (by kernel_rfl) fun K hK => ?_
        go_simp
        exact hK _ _ rfl rfl (World.grownBy.refl _ none)
      -- op 23 (slot 89): pick
      refine MonoR.step (Pv.eq (.bool false)) [(15, 81), (22, 88)] (by kernel_rfl) (fun w' hw' => ?_) ?_
      · intro x81 h81
        intro x88 h88
        have e81 : x81 = .bool false := h81
        clear h81
        subst e81
        have e88 : x88 = .bool false := h88
        clear h88
        subst e88
        refine ask_do rfl fun K hK => ?_
        go_simp
        exact hK _ _ rfl rfl (World.grownBy.refl _ none)
      
      intro w10 hw10
      intro y0 k0 y1 k1 y2 k2 y3 k3 y4 k4 y5 k5 y6 k6 y7 k7 y8 k8 y9 k9 y10 k10 y11 k11 y12 k12 y13 k13 y14 k14 y15 k15 y16 k16 y17 k17 y18 k18 y19 k19 y20 k20 y21 k21 y22 k22 y23 k23
      have e23 : y23 = .bool false := k23
      subst e23
      refine wpList_nil ?_
      simp only [Act.put, List.setIfInBounds_toArray, List.set_cons_zero, List.set_cons_succ]
      have HG10 : Hid (w5.grownBy w10 none) := Lib.hid (HG9.out.trans hw10)
      have HTI10 : Hid (TI K1 w10) := Lib.hid (HKP.out.1 _ _ _ none HTI9.out hw10 (fun x e => by cases e))
      have HRI10 : Hid (RI K1 w10) := Lib.hid (HKP.out.2 _ _ _ none HRI9.out hw10 (fun x e => by cases e))
      have HZ10 : Hid (w7.heap.size ≤ w10.heap.size) := Lib.hid (Nat.le_trans HZ9.out hw10.size)
      clear k0 k1 k2 k3 k4 k5 k6 k7 k8 k9 k10 k11 k12 k13 k14 k15 k16 k17 k18 k19 k20 k21 k22 k23 hw10 HSS HLS HAT9 HLD9 HTI9 HRI9 HG9
      have hp10 := (HIN.out w10 HG10.out).2.2.2.2.2.prule
      have HMA := Lib.hid (dmake_all p (.slice A5 n2 c5) lh n _ w10 HTP.out HP.out (HIN.out w10 HG10.out).2.2.2.2.1 (HIN.out w10 HG10.out).2.2.2.1 (fun x hx => (HX5.out x hx).1) K1 (by have := HKM.out; omega) HTI10.out)
      go_wp2_with fail
      refine HMA.out.mono ?_
      rintro e w11 ⟨v5, v6, v7, rfl, s5, s6, s7, hi11, hg11⟩
      obtain ⟨B5, m5, f5, rfl⟩ := s5.shape
      obtain ⟨B6, m6, f6, rfl⟩ := s6.shape
      obtain ⟨B7, m7, f7, rfl⟩ := s7.shape
      obtain ⟨w12, hw12⟩ : ∃ y, y = w11.alloc (Obj.cells #[.slice B5 m5 f5, .slice B6 m6 f6, .slice B7 m7 f7] 45) := ⟨_, rfl⟩
      obtain ⟨D1, hD1⟩ : ∃ y, y = w11.heap.size := ⟨_, rfl⟩
      have HGA : Hid (w10.grownBy w12 (some b)) := Lib.hid (hg11.trans (by rw [hw12]; exact World.grownBy_alloc w11 _ _))
      have HK1 : Hid (Bk w12 D1 45 #[.slice B5 m5 f5, .slice B6 m6 f6, .slice B7 m7 f7]) := Lib.hid (by rw [hw12, hD1]; exact Bk.new _ _ _)
      have HGN : Hid (w11.grownBy w12 none) := Lib.hid (by rw [hw12]; exact World.grownBy_alloc w11 _ none)
      have HS5 := Lib.hid (s5.kept HGN.out)
      have HS6 := Lib.hid (s6.kept HGN.out)
      have HS7 := Lib.hid (s7.kept HGN.out)
      have HG12 : Hid (w5.grownBy w12 none) := Lib.hid (HUP.out w10 w12 (some b) HG10.out HGA.out (fun x e => by injection e with e; have := HBN.out; omega))
      have HTI12 : Hid (TI (K1 + maK p lh n) w12) := Lib.hid (HKP.out.1 _ _ _ none hi11 HGN.out (fun x e => by cases e))
      have HRI12 : Hid (RI K1 w12) := Lib.hid (HKP.out.2 _ _ _ _ HRI10.out HGA.out (fun x e => by injection e with e; exact e.symm))
      have HD1 : Hid (w10.heap.size ≤ D1 ∧ D1 < w12.heap.size ∧ w7.heap.size ≤ w10.heap.size) := Lib.hid ⟨by rw [hD1]; exact hg11.size, HK1.out.lt, HZ10.out⟩
      have hp12 : ∀ o, (w11.alloc (Obj.cells #[.slice B5 m5 f5, .slice B6 m6 f6, .slice B7 m7 f7] 45)).cell? ⟨w.heap.size, o, none⟩ = (#[.int .u64 p.P, .int .u64 p.Q, .int .u64 p.G, .int .u64 p.H, .int .i64 p.Nodes, .int .i64 p.N, .int .i64 p.T, .int .i64 p.K, .int .i64 p.D, .int .i64 p.R, .int .i64 p.M, .int .i64 p.X] : Array Value)[o]? := by rw [← hw12]; exact (HIN.out w12 HG12.out).2.2.2.2.2.prule
      have HMB := Lib.hid (rmake_all p (.slice A2 n2 c2) lh n _ w12 HRP.out HP.out (HIN.out w12 HG12.out).2.1 (fun x hx => (HX5.out x hx).2) K1 (by have := HKM.out; omega) HRI12.out)
      clear s5 s6 s7 hi11 hg11 HMA hp10
      go_wp2_with fail
      rw [← hw12, ← hD1]
      clear hw12 hD1 hp12
      refine HMB.out.mono ?_
      rintro e w13 ⟨v8, v9, v10, rfl, s8, s9, s10, hi13, hg13⟩
      obtain ⟨B8, m8, f8, rfl⟩ := s8.shape
      obtain ⟨B9, m9, f9, rfl⟩ := s9.shape
      obtain ⟨B10, m10, f10, rfl⟩ := s10.shape
      obtain ⟨w14, hw14⟩ : ∃ y, y = w13.alloc (Obj.cells #[.slice B8 m8 f8, .slice B9 m9 f9, .slice B10 m10 f10] 48) := ⟨_, rfl⟩
      obtain ⟨D2, hD2⟩ : ∃ y, y = w13.heap.size := ⟨_, rfl⟩
      have HGB : Hid (w12.grownBy w14.drew (some br)) := Lib.hid ((hg13.trans (by rw [hw14]; exact World.grownBy_alloc w13 _ _)).trans ((grown_drewN' w14 1).but _))
      have HGM : Hid (w13.grownBy w14.drew none) := Lib.hid ((by rw [hw14]; exact World.grownBy_alloc w13 _ none : w13.grownBy w14 none).trans (grown_drewN' w14 1))
      have HK2 : Hid (Bk w14.drew D2 48 #[.slice B8 m8 f8, .slice B9 m9 f9, .slice B10 m10 f10]) := Lib.hid (by rw [hw14, hD2]; exact Bk.new _ _ _)
      have HD2 : Hid (w12.heap.size ≤ D2 ∧ D2 < w14.drew.heap.size) := Lib.hid ⟨by rw [hD2]; exact hg13.size, HK2.out.lt⟩
      have HNB : Hid (∀ x, w10.heap.size ≤ x → x ≠ b ∧ x ≠ br) := Lib.hid (fun x hx => HBW.out x (Nat.le_trans HZ10.out hx))
      have HK1' := Lib.hid (HK1.out.grown HGB.out (fun e => by injection e with e; exact (HNB.out D1 HD1.out.1).2 e))
      have HT5 := Lib.hid (HS5.out.keep HGB.out (fun x hx e => by injection e with e; exact (HNB.out x hx).2 e))
      have HT6 := Lib.hid (HS6.out.keep HGB.out (fun x hx e => by injection e with e; exact (HNB.out x hx).2 e))
      have HT7 := Lib.hid (HS7.out.keep HGB.out (fun x hx e => by injection e with e; exact (HNB.out x hx).2 e))
      have HT8 := Lib.hid (s8.kept HGM.out)
      have HT9 := Lib.hid (s9.kept HGM.out)
      have HT10 := Lib.hid (s10.kept HGM.out)
      have HG14 : Hid (w5.grownBy w14.drew none) := Lib.hid (HUP.out w12 _ (some br) HG12.out HGB.out (fun x e => by injection e with e; have := HBN.out; omega))
      have HTI14 : Hid (TI (K1 + maK p lh n) w14.drew) := Lib.hid (HKP.out.1 _ _ _ _ HTI12.out HGB.out (fun x e => by injection e with e; exact e.symm))
      have HRI14 : Hid (RI (K1 + maK p lh n) w14.drew) := Lib.hid (HKP.out.2 _ _ _ none hi13 HGM.out (fun x e => by cases e))
      have HDE : Hid (∀ W, w14.drew.grownBy W none → Calls Tryz.prog 14 #[.agg #[.slice B5 m5 f5, .slice B6 m6 f6, .slice B7 m7 f7], .agg #[.slice B8 m8 f8, .slice B9 m9 f9, .slice B10 m10 f10]] W fun e w' => e = .returned (.bool true) ∧ W.grownBy w' none) := Lib.hid (fun W hW => dealings_eq _ _ _ _ _ _ _ _ _ _ _ W (HT5.out.kept hW) (HT6.out.kept hW) (HT7.out.kept hW) (HT8.out.kept hW) (HT9.out.kept hW) (HT10.out.kept hW))
      obtain ⟨K2, hK2⟩ : ∃ y, y = K1 + maK p lh n := ⟨_, rfl⟩
      have HK2B : Hid (K2 ≤ 100000) := Lib.hid (by have := HKM.out; have := HKA.out; omega)
      rw [← hK2] at HTI14 HRI14
      have HATE : Hid (∀ W, w14.drew.grownBy W none → Calls Tryz.prog 11 #[.pointer (some ⟨b, 0, none⟩)] W fun e w' => e = .returned (.int .i64 (K2 : Nat)) ∧ w' = W) := Lib.hid (fun W hW => mk_at b _ W (HAT.out _ W HK2B.out (HKP.out.1 _ _ _ none HTI14.out hW (fun x e => by cases e))))
      have HLDE : Hid (∀ W, w14.drew.grownBy W none → W.cell? ⟨br, 2, none⟩ = some (.int .i64 (K2 : Nat)) ∧ Bk W D1 45 #[.slice B5 m5 f5, .slice B6 m6 f6, .slice B7 m7 f7] ∧ Bk W D2 48 #[.slice B8 m8 f8, .slice B9 m9 f9, .slice B10 m10 f10]) := Lib.hid (fun W hW => ⟨HRN.out _ W HK2B.out (HKP.out.2 _ _ _ none HRI14.out hW (fun x e => by cases e)), HK1'.out.grown hW (by simp), HK2.out.grown hW (by simp)⟩)
      obtain ⟨E2, hE2⟩ : ∃ y, y = maE p lh n := ⟨_, rfl⟩
      rw [← hE2]
      clear s8 s9 s10 hi13 hg13 hK2 hE2 HMB HS5 HS6 HS7 HK1 HGA HGB HGM HGN HTI12 HRI12 HTI10 HRI10 HG10 HG12
      go_upto_region 12 with (fail)
      rw [← hw14, ← hD2]
      clear hw14 hD2
      refine wp_region_mono 18 (by kernel_rfl) (by kernel_rfl) ?_
      -- op 0 (slot 106): move
      refine MonoR.step (Pv.eq (.int .i64 E2)) [] (by kernel_rfl) (fun w' hw' => ?_) ?_
      · refine ask_do rfl fun K hK => ?_
        go_simp
        exact hK _ _ rfl rfl (World.grownBy.refl _ none)
      -- op 1 (slot 107): move
      refine MonoR.step (Pv.eq (.int .i64 E2)) [] (by kernel_rfl) (fun w' hw' => ?_) ?_
      · refine ask_do rfl fun K hK => ?_
        go_simp
        exact hK _ _ rfl rfl (World.grownBy.refl _ none)
      -- op 2 (slot 108): binOp
      refine MonoR.step (Pv.eq (.bool false)) [(0, 106), (1, 107)] (by kernel_rfl) (fun w' hw' => ?_) ?_
      · intro x106 h106
        intro x107 h107
        have e106 : x106 = .int .i64 E2 := h106
        clear h106
        subst e106
        have e107 : x107 = .int .i64 E2 := h107
        clear h107
        subst e107
        refine ask_do rfl fun K hK => ?_
        go_simp
        exact hK _ _ rfl rfl (World.grownBy.refl _ none)
      -- op 3 (slot 109): move
      refine MonoR.step (Pv.eq (.bool false)) [(2, 108)] (by kernel_rfl) (fun w' hw' => ?_) ?_
      · intro x108 h108
        have e108 : x108 = .bool false := h108
        clear h108
        subst e108
        refine ask_do rfl fun K hK => ?_
        go_simp
        exact hK _ _ rfl rfl (World.grownBy.refl _ none)
      -- op 4 (slot 110): load [(3, 'false')]
      refine MonoR.step (Pv.eq (.agg #[.slice B5 m5 f5, .slice B6 m6 f6, .slice B7 m7 f7])) [(3, 109)] (by kernel_rfl) (fun w' hw' => ?_) ?_
      · intro x109 h109
        have e109 : x109 = .bool false := h109
        clear h109
        subst e109
        refine ask_do (by kernel_rfl) fun K hK => ?_
        obtain ⟨q0, hb1, hb2⟩ := HLDE.out w' hw'
        have r0 := hb1.cell 0
        have r1 := hb1.cell 1
        have r2 := hb1.cell 2
        have t0 := hb2.cell 0
        have t1 := hb2.cell 1
        have t2 := hb2.cell 2
        simp at r0 r1 r2 t0 t1 t2
        clear hb1 hb2
        go_simp
        exact hK _ _ rfl rfl (World.grownBy.refl _ none)
      -- op 5 (slot 111): load [(3, 'false')]
      refine MonoR.step (Pv.eq (.agg #[.slice B8 m8 f8, .slice B9 m9 f9, .slice B10 m10 f10])) [(3, 109)] (by kernel_rfl) (fun w' hw' => ?_) ?_
      · intro x109 h109
        have e109 : x109 = .bool false := h109
        clear h109
        subst e109
        refine ask_do (by kernel_rfl) fun K hK => ?_
        obtain ⟨q0, hb1, hb2⟩ := HLDE.out w' hw'
        have r0 := hb1.cell 0
        have r1 := hb1.cell 1
        have r2 := hb1.cell 2
        have t0 := hb2.cell 0
        have t1 := hb2.cell 1
        have t2 := hb2.cell 2
        simp at r0 r1 r2 t0 t1 t2
        clear hb1 hb2
        go_simp
        exact hK _ _ rfl rfl (World.grownBy.refl _ none)
      -- op 6 (slot 112): call [(3, 'false')]
      refine MonoR.step (Pv.eq (.bool true)) [(3, 109), (4, 110), (5, 111)] (by kernel_rfl) (fun w' hw' => ?_) ?_
      · intro x109 h109
        intro x110 h110
        intro x111 h111
        have e109 : x109 = .bool false := h109
        clear h109
        subst e109
        have e110 : x110 = .agg #[.slice B5 m5 f5, .slice B6 m6 f6, .slice B7 m7 f7] := h110
        clear h110
        subst e110
        have e111 : x111 = .agg #[.slice B8 m8 f8, .slice B9 m9 f9, .slice B10 m10 f10] := h111
        clear h111
        subst e111
        refine ask_do (by kernel_rfl) fun K hK => ?_
        go_simp
        refine (HDE.out w' hw').mono ?_
        rintro e w3 ⟨rfl, hg⟩
        exact hK _ _ rfl rfl hg
      -- op 7 (slot 113): unOp [(3, 'false')]
      refine MonoR.step (Pv.eq (.bool false)) [(3, 109), (6, 112)] (by kernel_rfl) (fun w' hw' => ?_) ?_
      · intro x109 h109
        intro x112 h112
        have e109 : x109 = .bool false := h109
        clear h109
        subst e109
        have e112 : x112 = .bool true := h112
        clear h112
        subst e112
        refine ask_do (by kernel_rfl) fun K hK => ?_
        go_simp
        exact hK _ _ rfl rfl (World.grownBy.refl _ none)
      -- op 8 (slot 114): pick
      refine MonoR.step (Pv.eq (.bool false)) [(3, 109), (7, 113)] (by kernel_rfl) (fun w' hw' => ?_) ?_
      · intro x109 h109
        intro x113 h113
        have e109 : x109 = .bool false := h109
        clear h109
        subst e109
        have e113 : x113 = .bool false := h113
        clear h113
        subst e113
        refine ask_do rfl fun K hK => ?_
        go_simp
        exact hK _ _ rfl rfl (World.grownBy.refl _ none)
      -- op 9 (slot 115): move
      refine MonoR.step (Pv.eq (.bool false)) [(8, 114)] (by kernel_rfl) (fun w' hw' => ?_) ?_
      · intro x114 h114
        have e114 : x114 = .bool false := h114
        clear h114
        subst e114
        refine ask_do rfl fun K hK => ?_
        go_simp
        exact hK _ _ rfl rfl (World.grownBy.refl _ none)
      -- op 10 (slot 116): move [(9, 'false')]
      refine MonoR.step (Pv.eq (.pointer (some ⟨b, 0, none⟩))) [(9, 115)] (by kernel_rfl) (fun w' hw' => ?_) ?_
      · intro x115 h115
        have e115 : x115 = .bool false := h115
        clear h115
        subst e115
        refine ask_do (by kernel_rfl) fun K hK => ?_
        go_simp
        exact hK _ _ rfl rfl (World.grownBy.refl _ none)
      -- op 11 (slot 117): call [(9, 'false')]
      refine MonoR.step (Pv.eq (.int .i64 (K2 : Int))) [(9, 115), (10, 116)] (by kernel_rfl) (fun w' hw' => ?_) ?_
      · intro x115 h115
        intro x116 h116
        have e115 : x115 = .bool false := h115
        clear h115
        subst e115
        have e116 : x116 = .pointer (some ⟨b, 0, none⟩) := h116
        clear h116
        subst e116
        refine ask_do (by kernel_rfl) fun K hK => ?_
        go_simp
        refine (HATE.out w' hw').mono ?_
        rintro e w3 ⟨rfl, rfl⟩
        exact hK _ _ rfl rfl (World.grownBy.refl _ none)
      -- op 12 (slot 118): move [(9, 'false')]
      refine MonoR.step (Pv.eq (.pointer (some ⟨br, 0, none⟩))) [(9, 115)] (by kernel_rfl) (fun w' hw' => ?_) ?_
      · intro x115 h115
        have e115 : x115 = .bool false := h115
        clear h115
        subst e115
        refine ask_do (by kernel_rfl) fun K hK => ?_
        go_simp
        exact hK _ _ rfl rfl (World.grownBy.refl _ none)
      -- op 13 (slot 119): nilCheck [(9, 'false')]
      refine MonoR.step (Pv.eq (.pointer (some ⟨br, 0, none⟩))) [(9, 115), (12, 118)] (by kernel_rfl) (fun w' hw' => ?_) ?_
      · intro x115 h115
        intro x118 h118
        have e115 : x115 = .bool false := h115
        clear h115
        subst e115
        have e118 : x118 = .pointer (some ⟨br, 0, none⟩) := h118
        clear h118
        subst e118
        refine ask_do (by kernel_rfl) fun K hK => ?_
        go_simp
        exact hK _ _ rfl rfl (World.grownBy.refl _ none)
      -- op 14 (slot 120): fieldAddr [(9, 'false')]
      refine MonoR.step (Pv.eq (.pointer (some ⟨br, 2, none⟩))) [(9, 115), (13, 119)] (by kernel_rfl) (fun w' hw' => ?_) ?_
      · intro x115 h115
        intro x119 h119
        have e115 : x115 = .bool false := h115
        clear h115
        subst e115
        have e119 : x119 = .pointer (some ⟨br, 0, none⟩) := h119
        clear h119
        subst e119
        refine ask_do (by kernel_rfl) fun K hK => ?_
        go_simp
        exact hK _ _ rfl rfl (World.grownBy.refl _ none)
      -- op 15 (slot 121): load [(9, 'false')]
      refine MonoR.step (Pv.eq (.int .i64 (K2 : Int))) [(9, 115), (14, 120)] (by kernel_rfl) (fun w' hw' => ?_) ?_
      · intro x115 h115
        intro x120 h120
        have e115 : x115 = .bool false := h115
        clear h115
        subst e115
        have e120 : x120 = .pointer (some ⟨br, 2, none⟩) := h120
        clear h120
        subst e120
        refine ask_do (by kernel_rfl) fun K hK => ?_
        obtain ⟨q0, hb1, hb2⟩ := HLDE.out w' hw'
        have r0 := hb1.cell 0
        have r1 := hb1.cell 1
        have r2 := hb1.cell 2
        have t0 := hb2.cell 0
        have t1 := hb2.cell 1
        have t2 := hb2.cell 2
        simp at r0 r1 r2 t0 t1 t2
        clear hb1 hb2
        go_simp
        exact hK _ _ rfl rfl (World.grownBy.refl _ none)
      -- op 16 (slot 122): binOp [(9, 'false')]
      refine MonoR.step (Pv.eq (.bool false)) [(9, 115), (11, 117), (15, 121)] (by kernel_rfl) (fun w' hw' => ?_) ?_
      · intro x115 h115
        intro x117 h117
        intro x121 h121
        have e115 : x115 = .bool false := h115
        clear h115
        subst e115
        have e117 : x117 = .int .i64 (K2 : Int) := h117
        clear h117
        subst e117
        have e121 : x121 = .int .i64 (K2 : Int) := h121
        clear h121
        subst e121
        refine ask_do (by kernel_rfl) fun K hK => ?_
        go_simp
        exact hK _ _ rfl rfl (World.grownBy.refl _ none)
      -- op 17 (slot 123): pick
      refine MonoR.step (Pv.eq (.bool false)) [(9, 115), (16, 122)] (by kernel_rfl) (fun w' hw' => ?_) ?_
      · intro x115 h115
        intro x122 h122
        have e115 : x115 = .bool false := h115
        clear h115
        subst e115
        have e122 : x122 = .bool false := h122
        clear h122
        subst e122
        refine ask_do rfl fun K hK => ?_
        go_simp
        exact hK _ _ rfl rfl (World.grownBy.refl _ none)
      
      intro w15 hw15
      intro y0 k0 y1 k1 y2 k2 y3 k3 y4 k4 y5 k5 y6 k6 y7 k7 y8 k8 y9 k9 y10 k10 y11 k11 y12 k12 y13 k13 y14 k14 y15 k15 y16 k16 y17 k17
      have e17 : y17 = .bool false := k17
      subst e17
      refine wpList_nil ?_
      simp only [Act.put, List.setIfInBounds_toArray, List.set_cons_zero, List.set_cons_succ]
      have HG15 : Hid (w5.grownBy w15 none) := Lib.hid (HG14.out.trans hw15)
      have HB1 := Lib.hid (HLDE.out w15 hw15).2.1
      have HB2 := Lib.hid (HLDE.out w15 hw15).2.2
      have HZ15 : Hid (w10.heap.size ≤ D1 ∧ D1 < D2 ∧ D2 < w15.heap.size ∧ w7.heap.size ≤ w10.heap.size ∧ w7.heap.size ≤ w15.heap.size) := Lib.hid (by have h1 := HD1.out; have h2 := HD2.out; have h3 := hw15.size; omega)
      clear k0 k1 k2 k3 k4 k5 k6 k7 k8 k9 k10 k11 k12 k13 k14 k15 k16 k17 hw15 HDE HATE HLDE HTI14 HRI14 HG14 HT5 HT6 HT7 HT8 HT9 HT10 HK1' HK2 HD1 HD2
      have hp15 := (HIN.out w15 HG15.out).2.2.2.2.2.prule
      have HMC := Lib.hid (dmake_all p (.slice A5 n2 c5) lh n _ w15 (tp_none b p.Q (mk_next_nil p.Q)) HP.out (HIN.out w15 HG15.out).2.2.2.2.1 (HIN.out w15 HG15.out).2.2.2.1 (fun x hx => (HX5.out x hx).1) 0 (by decide) (by have := HBN.out; have := HZ15.out; omega))
      go_wp2_with fail
      refine HMC.out.mono ?_
      rintro e w16 ⟨v11, v12, v13, rfl, s11, s12, s13, _, hg16⟩
      obtain ⟨B11, m11, f11, rfl⟩ := s11.shape
      obtain ⟨B12, m12, f12, rfl⟩ := s12.shape
      obtain ⟨B13, m13, f13, rfl⟩ := s13.shape
      have HB1' := Lib.hid (HB1.out.grown hg16 (fun e => by injection e with e; exact (HNB.out D1 HZ15.out.1).1 e))
      have HB2' := Lib.hid (HB2.out.grown hg16 (fun e => by injection e with e; exact (HNB.out D2 (by have := HZ15.out; omega)).1 e))
      have r0 := HB1'.out.cell 0
      have r1 := HB1'.out.cell 1
      have r2 := HB1'.out.cell 2
      have fr := HB1'.out.free
      simp at r0 r1 r2
      obtain ⟨w17, hw17⟩ : ∃ y, y = (((w16.setCell ⟨D1, 0, none⟩ (.slice B11 m11 f11)).setCell ⟨D1, 1, none⟩ (.slice B12 m12 f12)).setCell ⟨D1, 2, none⟩ (.slice B13 m13 f13)) := ⟨_, rfl⟩
      have HGS : Hid (w16.grownBy w17 (some D1)) := Lib.hid (by rw [hw17]; exact ((grownSet w16 D1 0 _).trans (grownSet _ D1 1 _)).trans (grownSet _ D1 2 _))
      have HC1 : Hid (Bk w17 D1 45 #[.slice B11 m11 f11, .slice B12 m12 f12, .slice B13 m13 f13]) := Lib.hid (by rw [hw17]; exact ((HB1'.out.set 0 _).set 1 _).set 2 _)
      have HC2 := Lib.hid (HB2'.out.grown HGS.out (fun e => by injection e with e; have := HZ15.out; omega))
      have HU11 := Lib.hid (s11.keep HGS.out (fun x hx e => by injection e with e; have := HZ15.out; omega))
      have HU12 := Lib.hid (s12.keep HGS.out (fun x hx e => by injection e with e; have := HZ15.out; omega))
      have HU13 := Lib.hid (s13.keep HGS.out (fun x hx e => by injection e with e; have := HZ15.out; omega))
      have HG17 : Hid (w5.grownBy w17 none) := Lib.hid (HUP.out w16 w17 _ (HUP.out w15 w16 _ HG15.out hg16 (fun x e => by injection e with e; have := HBN.out; omega)) HGS.out (fun x e => by injection e with e; have := HZ15.out; have := HBN.out; omega))
      have HZ17 : Hid (w15.heap.size ≤ w17.heap.size) := Lib.hid (Nat.le_trans hg16.size HGS.out.size)
      have hp17 : ∀ o, (((w16.setCell ⟨D1, 0, none⟩ (.slice B11 m11 f11)).setCell ⟨D1, 1, none⟩ (.slice B12 m12 f12)).setCell ⟨D1, 2, none⟩ (.slice B13 m13 f13)).cell? ⟨w.heap.size, o, none⟩ = (#[.int .u64 p.P, .int .u64 p.Q, .int .u64 p.G, .int .u64 p.H, .int .i64 p.Nodes, .int .i64 p.N, .int .i64 p.T, .int .i64 p.K, .int .i64 p.D, .int .i64 p.R, .int .i64 p.M, .int .i64 p.X] : Array Value)[o]? := by rw [← hw17]; exact (HIN.out w17 HG17.out).2.2.2.2.2.prule
      have HMD := Lib.hid (rmake_all p (.slice A2 n2 c2) lh n _ w17 (rtp_none br p.Q) HP.out (HIN.out w17 HG17.out).2.1 (fun x hx => (HX5.out x hx).2) 0 (by decide) (by have := HBN.out; have := HZ15.out; have := HZ17.out; omega))
      clear s11 s12 s13 hg16 HMC hp15 HB1 HB2 HB1' HB2' HGS
      go_wp2_with fail
      rw [← hw17]
      clear hw17 hp17 r0 r1 r2 fr
      refine HMD.out.mono ?_
      rintro e w18 ⟨v14, v15, v16, rfl, s14, s15, s16, _, hg18⟩
      obtain ⟨B14, m14, f14, rfl⟩ := s14.shape
      obtain ⟨B15, m15, f15, rfl⟩ := s15.shape
      obtain ⟨B16, m16, f16, rfl⟩ := s16.shape
      have HE2 := Lib.hid (HC2.out.grown hg18 (fun e => by injection e with e; exact (HNB.out D2 (by have := HZ15.out; omega)).2 e))
      have HE1 := Lib.hid (HC1.out.grown hg18 (fun e => by injection e with e; exact (HNB.out D1 HZ15.out.1).2 e))
      have r0 := HE2.out.cell 0
      have r1 := HE2.out.cell 1
      have r2 := HE2.out.cell 2
      have fr := HE2.out.free
      simp at r0 r1 r2
      obtain ⟨w19, hw19⟩ : ∃ y, y = (((w18.setCell ⟨D2, 0, none⟩ (.slice B14 m14 f14)).setCell ⟨D2, 1, none⟩ (.slice B15 m15 f15)).setCell ⟨D2, 2, none⟩ (.slice B16 m16 f16)) := ⟨_, rfl⟩
      have HGS : Hid (w18.grownBy w19 (some D2)) := Lib.hid (by rw [hw19]; exact ((grownSet w18 D2 0 _).trans (grownSet _ D2 1 _)).trans (grownSet _ D2 2 _))
      have HF2 : Hid (Bk w19 D2 48 #[.slice B14 m14 f14, .slice B15 m15 f15, .slice B16 m16 f16]) := Lib.hid (by rw [hw19]; exact ((HE2.out.set 0 _).set 1 _).set 2 _)
      have HF1 := Lib.hid (HE1.out.grown HGS.out (fun e => by injection e with e; have := HZ15.out; omega))
      have HN2 : Hid (∀ x, w15.heap.size ≤ x → x ≠ br ∧ x ≠ D2) := Lib.hid (fun x hx => by have := HZ15.out; have := (HBW.out x (by omega)).2; exact ⟨this, by omega⟩)
      have HV11 := Lib.hid ((HU11.out.keep hg18 (fun x hx e => by injection e with e; exact (HN2.out x hx).1 e)).keep HGS.out (fun x hx e => by injection e with e; exact (HN2.out x hx).2 e))
      have HV12 := Lib.hid ((HU12.out.keep hg18 (fun x hx e => by injection e with e; exact (HN2.out x hx).1 e)).keep HGS.out (fun x hx e => by injection e with e; exact (HN2.out x hx).2 e))
      have HV13 := Lib.hid ((HU13.out.keep hg18 (fun x hx e => by injection e with e; exact (HN2.out x hx).1 e)).keep HGS.out (fun x hx e => by injection e with e; exact (HN2.out x hx).2 e))
      have HV14 := Lib.hid (s14.keep HGS.out (fun x hx e => by injection e with e; exact (HN2.out x (Nat.le_trans HZ17.out hx)).2 e))
      have HV15 := Lib.hid (s15.keep HGS.out (fun x hx e => by injection e with e; exact (HN2.out x (Nat.le_trans HZ17.out hx)).2 e))
      have HV16 := Lib.hid (s16.keep HGS.out (fun x hx e => by injection e with e; exact (HN2.out x (Nat.le_trans HZ17.out hx)).2 e))
      have HG19 : Hid (w5.grownBy w19 none) := Lib.hid (HUP.out w18 w19 _ (HUP.out w17 w18 _ HG17.out hg18 (fun x e => by injection e with e; have := HBN.out; omega)) HGS.out (fun x e => by injection e with e; have := HZ15.out; have := HBN.out; omega))
      have HDF := Lib.hid (dealings_eq _ _ _ _ _ _ _ _ _ _ _ w19 HV11.out HV12.out HV13.out HV14.out HV15.out HV16.out)
      have HLF : Hid (∀ i : Nat, (((w18.setCell ⟨D2, 0, none⟩ (.slice B14 m14 f14)).setCell ⟨D2, 1, none⟩ (.slice B15 m15 f15)).setCell ⟨D2, 2, none⟩ (.slice B16 m16 f16)).cell? ⟨D1, i, none⟩ = (#[.slice B11 m11 f11, .slice B12 m12 f12, .slice B13 m13 f13] : Array Value)[i]? ∧ (((w18.setCell ⟨D2, 0, none⟩ (.slice B14 m14 f14)).setCell ⟨D2, 1, none⟩ (.slice B15 m15 f15)).setCell ⟨D2, 2, none⟩ (.slice B16 m16 f16)).cell? ⟨D2, i, none⟩ = (#[.slice B14 m14 f14, .slice B15 m15 f15, .slice B16 m16 f16] : Array Value)[i]?) := Lib.hid (fun i => by rw [← hw19]; exact ⟨HF1.out.cell i, HF2.out.cell i⟩)
      have u0 := HLF.out 0
      have u1 := HLF.out 1
      have u2 := HLF.out 2
      simp at u0 u1 u2
      clear s14 s15 s16 hg18 HMD HC1 HC2 HE1 HE2 HGS HU11 HU12 HU13 HLF
      go_wp2_with fail
      rw [← hw19]
      clear hw19 r0 r1 r2 fr u0 u1 u2
      refine HDF.out.mono ?_
      rintro e w20 ⟨rfl, hg20⟩
      have HG20 : Hid (w5.grownBy w20 none) := Lib.hid (HG19.out.trans hg20)
      clear hg20 HDF
      have HNM := Lib.hid (nums_eq _ _ ls _ _ w20 (HIN.out w20 HG20.out).2.2.1 (HIN.out w20 HG20.out).1)
      go_wp2_with fail
      refine HNM.out.mono ?_
      rintro e w21 ⟨rfl, k21, rfl⟩
      have HG21 : Hid (w5.grownBy (w20.drewN k21) none) := Lib.hid (HG20.out.trans (grown_drewN' w20 k21))
      have HSM := Lib.hid (same_eq _ _ lh _ _ (w20.drewN k21) (HIN.out _ HG21.out).2.2.2.1 (HIN.out _ HG21.out).2.1)
      clear HNM
      go_wp2_with fail
      refine HSM.out.mono ?_
      rintro e w22 ⟨rfl, k22, rfl⟩
      have HFIN : Hid (w.grownBy (w20.drewN (k21 + k22)) none) := Lib.hid ((HG0.out.trans HG5.out).trans (HG20.out.trans (grown_drewN' w20 _)))
      clear HSM
      go_wp2_with fail
      go_ret
      exact ⟨rfl, HFIN.out⟩
end Go.Proofs.YtphbcfpiklmmeaaGreatDoor
