/- The document's Times, Power, Commit, At, Is of the layer group, walked: what they tell is what group's tell. -/
import Derived.Test.YtnjbigbiclfcoaaGrpB
namespace Go.Proofs.Ytnjbigbiclfcoaa
open Go.RowKit

theorem u64_zero : U64 0 := by decide
theorem mulI_no (a b m : Int) (hm : mayB m = false) : mulI a b m = 0 := by simp [mulI, hm]
theorem timesI_no (P : Int) (l : List Int) (hm : mayB P = false) : timesI P l = 0 := by
  unfold timesI
  rcases List.eq_nil_or_concat l with rfl | ⟨l', x, rfl⟩
  · exact mulI_no _ _ _ hm
  · rw [List.concat_eq_append, List.foldl_append]
    exact mulI_no _ _ _ hm
theorem one_mod (P : Int) (hm : mayB P = true) : 1 % P = timesI P [] := by
  show _ = mulI 1 1 P
  rw [mulI_yes _ _ _ hm, Int.mul_one]
theorem one_mod_emod {a b : Int} (h : a = b) : a = b := h
set_option maxHeartbeats 400000 in
theorem rtimes_any (p : Par) (v : Value) (l : List Int) (X : Nat → Prop) (w : World) (hp : p.ok) (h : Sl encU X w v l) :
    Calls Try.prog 7 #[p.v, v] w fun e w' => e = .returned (.int .u64 (timesI p.P l)) ∧ w.grownBy w' none := by
  have H := Lib.hid h
  have HP := Lib.hid hp.P
  have hp0 : 0 ≤ p.P := hp.P.1
  have hp1 : p.P < 18446744073709551616 := hp.P.2
  obtain ⟨A, c, rfl, h1, h2⟩ := h.form
  clear h hp
  cases hm : mayB p.P with
  | false =>
    have HE : Hid (timesI p.P l = 0) := Lib.hid (timesI_no _ _ hm)
    rcases may_cases hm hp0 with h0 | h0
    · have hb : (p.P == 0) = true := by simpa using h0
      clear hm h0 hp0 hp1
      go_enter Try.func7, Try.ntmps7
      go_wp2
      go_ret
      exact ⟨ret_u64 HE.out.symm, World.grownBy_alloc w _ none⟩
    · have hb : (p.P == 0) = false := by simp; omega
      have hb' : decide (2305843009213693952 < p.P) = true := by simpa using h0
      clear hm
      go_enter Try.func7, Try.ntmps7
      go_wp2
      go_ret
      exact ⟨ret_u64 HE.out.symm, World.grownBy_alloc w _ none⟩
  | true =>
    have HM := Lib.hid hm
    obtain ⟨m0, m1⟩ : 0 < p.P ∧ p.P ≤ 2305843009213693952 := by simpa [mayB] using hm
    have hb : (p.P == 0) = false := by simp; omega
    have hb' : decide (2305843009213693952 < p.P) = false := by simp; omega
    have HO := Lib.hid (one_mod p.P hm)
    have HB : Hid (w.grownBy (w.alloc (Obj.cells p.cells 24)) none ∧ Bk (w.alloc (Obj.cells p.cells 24)) w.heap.size 24 p.cells) := Lib.hid ⟨World.grownBy_alloc w _ none, Bk.new w _ _⟩
    clear hm
    go_enter Try.func7, Try.ntmps7
    go_wp2
    rw [HO.out]
    go_loopg [5, 6] l.length (fun g sx si wx => ∃ j : Nat, j + g = l.length ∧ si = .int .i64 j ∧ sx = .int .u64 (timesI p.P (l.take j)) ∧ Hid (w.grownBy wx none ∧ Bk wx w.heap.size 24 p.cells))
    case atStart => exact ⟨0, by omega, rfl, rfl, HB⟩
    case round =>
      obtain ⟨j, hj, rfl, rfl, HX⟩ := hrel
      cases gk with
      | zero =>
        obtain rfl : j = l.length := by omega
        have HE : Hid (timesI p.P (l.take l.length) = timesI p.P l) := Lib.hid (by rw [List.take_length])
        go_wp2
        go_ret
        exact ⟨ret_u64 HE.out, HX.out.1⟩
      | succ k =>
        have hjn : (j : Int) < (l.length : Int) := by omega
        have hjN : j < l.length := by omega
        obtain ⟨g, o, c', e, _, _, hc, hu⟩ := (H.out.kept HX.out.1).atU hjN
        injection e with e1 e2 e3
        subst e1 e3
        have cP : wr.cell? ⟨w.heap.size, 0, none⟩ = some (.int .u64 p.P) := HX.out.2.cell 0
        have HS := Lib.hid (timesI_snoc p.P l j hjN)
        have HTm := Lib.hid (timesI_U64 p.P (l.take j))
        have HU := Lib.hid hu
        generalize l[j] = y at *
        generalize timesI p.P (l.take j) = t at *
        clear hu e2
        go_wp2_with fail
        go_quiet ((go_at_call 15; exact Calls.quiet_of (refmul_any t y p.P _ HTm.out HU.out HP.out)))
        go_wp2
        go_roundg k
        case measure => omega
        case rel => exact ⟨j + 1, by omega, by go_num, by rw [HS.out], Lib.hid ⟨grownBy_drewN HX.out.1 _, HX.out.2.drewN _⟩⟩
theorem rtimes_nil (p : Par) (w : World) (hp : p.ok) :
    Calls Try.prog 7 #[p.v, .slice none 0 0] w fun e w' => e = .returned (.int .u64 (timesI p.P [])) ∧ w.grownBy w' none :=
  rtimes_any p _ [] (fun _ => True) w hp (Sl.nil _ _ _)
theorem rtimes_two (p : Par) (a b : Int) (w : World) (hp : p.ok) (ha : U64 a) (hb : U64 b) :
    Calls Try.prog 7 #[p.v, .slice (some ⟨w.heap.size, 0, none⟩) 2 2] (w.alloc (Obj.cells #[.int .u64 a, .int .u64 b] 22)) fun e w' => e = .returned (.int .u64 (timesI p.P [a, b])) ∧ w.grownBy w' none :=
  (rtimes_any p _ [a, b] (fun _ => True) _ hp (Sl.ofBk (t := 22) (Bk.new w 22 (nums [a, b]).toArray) (by intro y hy; simp at hy; rcases hy with rfl | rfl <;> assumption) (by simp))).mono fun _ _ ⟨he, hg⟩ => ⟨he, (World.grownBy_alloc w _ none).trans hg⟩
theorem rtimes_three (p : Par) (a b c : Int) (w : World) (hp : p.ok) (ha : U64 a) (hb : U64 b) (hc : U64 c) :
    Calls Try.prog 7 #[p.v, .slice (some ⟨w.heap.size, 0, none⟩) 3 3] (w.alloc (Obj.cells #[.int .u64 a, .int .u64 b, .int .u64 c] 22)) fun e w' => e = .returned (.int .u64 (timesI p.P [a, b, c])) ∧ w.grownBy w' none :=
  (rtimes_any p _ [a, b, c] (fun _ => True) _ hp (Sl.ofBk (t := 22) (Bk.new w 22 (nums [a, b, c]).toArray) (by intro y hy; simp at hy; rcases hy with rfl | rfl | rfl <;> assumption) (by simp))).mono fun _ _ ⟨he, hg⟩ => ⟨he, (World.grownBy_alloc w _ none).trans hg⟩

theorem timesI_two (P a b : Int) (hm : mayB P = true) : timesI P [a, b] = a * b % P := by
  show mulI (mulI (mulI 1 1 P) a P) b P = _
  rw [mulI_yes _ _ _ hm, mulI_yes _ _ _ hm, mulI_yes _ _ _ hm, Int.mul_one]
  exact ((Cg.mod P _).trans ((Cg.mod P 1).mul_right a |>.trans (Cg.of_eq (Int.one_mul a)))).mul_right b
theorem timesI_three (P a b c : Int) (hm : mayB P = true) : timesI P [a, b, c] = a * b * c % P := by
  show mulI (timesI P [a, b]) c P = _
  rw [mulI_yes _ _ _ hm, timesI_two _ _ _ hm]
  exact (Cg.mod P _).mul_right c
theorem rpow_zero (a P : Int) : timesI P [] = powI a 0 P := by
  cases hm : mayB P with
  | false => rw [timesI_no _ _ hm]; simp [powI, hm]
  | true => rw [← one_mod P hm]; simp [powI, hm]
theorem rpow_even (a e P : Int) (he : 0 ≤ e) (h2 : e % 2 = 0) : timesI P [powI a (e / 2) P, powI a (e / 2) P] = powI a e P := by
  cases hm : mayB P with
  | false => rw [timesI_no _ _ hm]; simp [powI, hm]
  | true => rw [timesI_two _ _ _ hm, ← pow_even a e P he h2, mulI_yes _ _ _ hm]
theorem rpow_odd (a e P : Int) (he : 0 ≤ e) (h2 : e % 2 = 1) : timesI P [powI a (e / 2) P, powI a (e / 2) P, a] = powI a e P := by
  cases hm : mayB P with
  | false => rw [timesI_no _ _ hm]; simp [powI, hm]
  | true =>
    rw [timesI_three _ _ _ _ hm, ← pow_odd a e P he h2, mulI_yes _ _ _ hm, mulI_yes _ _ _ hm]
    exact ((Cg.mod P _).mul_right a).symm

set_option maxHeartbeats 400000 in
theorem rpower_fuel (p : Par) (hp : p.ok) (x : Int) (hx : U64 x) : ∀ (f : Nat) (e : Int) (w : World), 0 ≤ e → e < 18446744073709551616 → e.toNat < 2 ^ f →
    Calls Try.prog 9 #[p.v, .int .u64 x, .int .u64 e] w fun e' w' => e' = .returned (.int .u64 (powI x e p.P)) ∧ w.grownBy w' none := by
  have HA := Lib.hid hx
  have HP := Lib.hid hp
  clear hx hp
  have base : ∀ w : World, Calls Try.prog 9 #[p.v, .int .u64 x, .int .u64 0] w fun e' w' => e' = .returned (.int .u64 (powI x 0 p.P)) ∧ w.grownBy w' none := by
    intro w
    rw [← rpow_zero]
    go_enter Try.func9, Try.ntmps9
    go_wp2_with fail
    refine (rtimes_nil p _ HP.out).mono ?_
    rintro e w1 ⟨rfl, hg⟩
    have HG := Lib.hid hg
    clear hg
    go_wp2
    go_ret
    exact ⟨rfl, (World.grownBy_alloc w _ none).trans HG.out⟩
  intro f
  induction f with
  | zero =>
    intro e w h0 h1 hf
    have : e = 0 := by simp at hf; omega
    subst this
    exact base w
  | succ f ih =>
    intro e w h0 h1 hf
    by_cases hz : e = 0
    · subst hz
      exact base w
    · have hz' : (e == 0) = false := by simpa using hz
      have HI := Lib.hid (fun w => ih (e / 2) w (by omega) (by omega) (by rw [Nat.pow_succ] at hf; omega))
      have HH := Lib.hid (powI_U64' x (e / 2) p.P)
      clear ih hf hz base
      by_cases h2 : e % 2 = 1
      · have h2' : (e % 2 == 1) = true := by simpa using h2
        rw [← rpow_odd x e p.P h0 h2]
        clear h2
        go_enter Try.func9, Try.ntmps9
        go_wp2_with fail
        refine (HI.out _).mono ?_
        rintro e w1 ⟨rfl, hg⟩
        have HG := Lib.hid hg
        have hp1 := ((Bk.new w 24 p.cells).grown hg (by simp)).prule
        clear hg
        go_wp2_with fail
        refine (rtimes_three p _ _ x w1 HP.out HH.out HH.out HA.out).mono ?_
        rintro e w2 ⟨rfl, hg⟩
        have HG2 := Lib.hid hg
        clear hg
        go_wp2
        go_ret
        exact ⟨rfl, (World.grownBy_alloc w _ none).trans (HG.out.trans HG2.out)⟩
      · have h2' : (e % 2 == 1) = false := by simpa using h2
        rw [← rpow_even x e p.P h0 (by omega)]
        clear h2
        go_enter Try.func9, Try.ntmps9
        go_wp2_with fail
        refine (HI.out _).mono ?_
        rintro e w1 ⟨rfl, hg⟩
        have HG := Lib.hid hg
        have hp1 := ((Bk.new w 24 p.cells).grown hg (by simp)).prule
        clear hg
        go_wp2_with fail
        refine (rtimes_two p _ _ w1 HP.out HH.out HH.out).mono ?_
        rintro e w2 ⟨rfl, hg⟩
        have HG2 := Lib.hid hg
        clear hg
        go_wp2
        go_ret
        exact ⟨rfl, (World.grownBy_alloc w _ none).trans (HG.out.trans HG2.out)⟩
theorem rpower_any (p : Par) (hp : p.ok) (x e : Int) (w : World) (hx : U64 x) (he : U64 e) :
    Calls Try.prog 9 #[p.v, .int .u64 x, .int .u64 e] w fun e' w' => e' = .returned (.int .u64 (powI x e p.P)) ∧ w.grownBy w' none := by
  obtain ⟨e0, e1⟩ := he
  exact rpower_fuel p hp x hx 64 e w e0 e1 (by have : (2 : Nat) ^ 64 = 18446744073709551616 := by decide
                                               omega)
set_option maxHeartbeats 400000 in
theorem rcommit_any (p : Par) (x : Int × Int) (w : World) (hp : p.ok) (h1 : U64 x.1) (h2 : U64 x.2) :
    Calls Try.prog 11 #[p.v, .agg #[.int .u64 x.1, .int .u64 x.2]] w fun e' w' => e' = .returned (.int .u64 (commitI p x)) ∧ w.grownBy w' none := by
  have HG : Hid (U64 p.G) := Lib.hid hp.G
  have HH : Hid (U64 p.H) := Lib.hid hp.H
  have H1 := Lib.hid h1
  have H2 := Lib.hid h2
  have HU := Lib.hid (powI_U64' p.G x.1 p.P)
  have HL := Lib.hid (powI_U64' p.H x.2 p.P)
  have HP := Lib.hid hp
  clear hp h1 h2
  go_enter Try.func11, Try.ntmps11
  go_wp2_with fail
  go_region_held3 (fun w' => ∀ b o, b < w.heap.size + 2 → w'.cell? ⟨b, o, none⟩ = ((w.alloc (Obj.cells p.cells 24)).alloc (Obj.cells #[.int .u64 x.1, .int .u64 x.2] 27)).cell? ⟨b, o, none⟩) (first | assumption | exact cells_alloc (by assumption) (by assumption) _ | go_keep)
    (first
    | (go_at_call 9; (with_reducible refine (rpower_any p HP.out p.G x.1 _ HG.out H1.out).mono ?_); rintro e w1 ⟨rfl, hg⟩; have HG1 := Lib.hid hg; have hc1 := cells_of (n := w.heap.size + 2) hg (by simp); clear hg)
    | (go_at_call 9; (with_reducible refine (rpower_any p HP.out p.H x.2 _ HH.out H2.out).mono ?_); rintro e w2 ⟨rfl, hg⟩; have HG2 := Lib.hid (HG1.out.trans hg); have hc2 := cells_of (n := w.heap.size + 2) HG2.out (by simp); have hs2 : w.heap.size + 2 ≤ w2.heap.size := Nat.le_trans (by simp) HG2.out.size; clear hg)
    | (go_at_call 7; (with_reducible refine (rtimes_two p _ _ w2 HP.out HU.out HL.out).mono ?_); rintro e w3 ⟨rfl, hg⟩; have HG3 := Lib.hid (HG2.out.trans hg); have hc3 := cells_of (n := w.heap.size + 2) HG3.out (by simp); clear hg))
  go_wp2
  go_ret
  exact ⟨rfl, ((World.grownBy_alloc w _ none).trans (World.grownBy_alloc _ _ none)).trans (grownBy_drewN (World.grownBy.refl _ none) 1 |>.trans HG3.out)⟩
set_option maxHeartbeats 400000 in
theorem ris_any (p : Par) (x : Int) (w : World) (hp : p.ok) (h1 : U64 x) :
    Calls Try.prog 5 #[p.v, .int .u64 x] w fun e' w' => e' = .returned (.bool (isB p x)) ∧ w.grownBy w' none := by
  have HP := Lib.hid hp
  have H1 := Lib.hid h1
  have hx0 := h1.1
  clear hp h1
  by_cases hm : p.P ≤ 2305843009213693952
  · by_cases ha : 1 ≤ x
    · by_cases hb : x < p.P
      · have HE : Hid (isB p x = (powI x p.Q p.P == 1)) := Lib.hid (by simp [isB, ha, hb])
        go_enter Try.func5, Try.ntmps5
        go_wp2_with fail
        refine (rpower_any p HP.out x p.Q _ H1.out HP.out.Q).mono ?_
        rintro e w1 ⟨rfl, hg⟩
        have HG := Lib.hid hg
        clear hg
        go_wp2
        go_ret
        exact ⟨ret_bool HE.out.symm, (World.grownBy_alloc w _ none).trans HG.out⟩
      · have HE : Hid (isB p x = false) := Lib.hid (by simp [isB, hb])
        have hb' : decide (x < p.P) = false := by simpa using hb
        clear hb
        go_enter Try.func5, Try.ntmps5
        go_wp2_with fail
        go_ret
        exact ⟨ret_bool HE.out.symm, World.grownBy_alloc w _ none⟩
    · have HE : Hid (isB p x = false) := Lib.hid (by simp [isB, ha])
      go_enter Try.func5, Try.ntmps5
      go_wp2_with fail
      go_ret
      exact ⟨ret_bool HE.out.symm, World.grownBy_alloc w _ none⟩
  · have HE : Hid (isB p x = false) := Lib.hid (by
      have : powI x p.Q p.P = 0 := by simp [powI, mayB]; omega
      simp [isB, this])
    go_enter Try.func5, Try.ntmps5
    go_wp2_with fail
    go_ret
    exact ⟨ret_bool HE.out.symm, World.grownBy_alloc w _ none⟩
theorem atGo_no (p : Par) (i : Int) (hq : mayB p.Q = false) : ∀ (l : List Int) (x : Int), atGo p i l x 0 = l.foldl (fun x y => timesI p.P [x, powI y 0 p.P]) x
  | [], x => rfl
  | y :: l, x => by rw [atGo, mulI_no _ _ _ hq]; exact atGo_no p i hq l _
set_option maxHeartbeats 400000 in
theorem rat_may (p : Par) (v : Value) (l : List Int) (i : Int) (X : Nat → Prop) (w : World) (hp : p.ok) (h : Sl encU X w v l) (hi : U64 i) (hq : mayB p.Q = true) :
    Calls Try.prog 13 #[p.v, v, .int .u64 i] w fun e' w' => e' = .returned (.int .u64 (atI p l i)) ∧ w.grownBy w' none := by
  have H := Lib.hid h
  have HP := Lib.hid hp
  have HI := Lib.hid hi
  have HO := Lib.hid (one_mod p.Q hq)
  obtain ⟨m0, m1⟩ : 0 < p.Q ∧ p.Q ≤ 2305843009213693952 := by simpa [mayB] using hq
  have hb : (p.Q == 0) = false := by simp; omega
  have hb' : decide (2305843009213693952 < p.Q) = false := by simp; omega
  obtain ⟨A, c, rfl, h1, h2⟩ := h.form
  clear h hi hp hq
  go_enter Try.func13, Try.ntmps13
  go_wp2_with fail
  refine (rtimes_nil p _ HP.out).mono ?_
  rintro e w1 ⟨rfl, hg⟩
  have HG := Lib.hid hg
  have HB : Hid (Bk w1 w.heap.size 24 p.cells) := Lib.hid ((Bk.new w _ _).grown hg (by simp))
  have hc1 := HB.out.prule
  clear hg
  go_wp2_with fail
  rw [HO.out]
  have HS : Hid (U64 (timesI p.P []) ∧ U64 (timesI p.Q []) ∧ w.grownBy w1 none ∧ Bk w1 w.heap.size 24 p.cells ∧ atGo p i (l.drop 0) (timesI p.P []) (timesI p.Q []) = atI p l i) :=
    Lib.hid ⟨timesI_U64 _ _, timesI_U64 _ _, (World.grownBy_alloc w _ none).trans HG.out, HB.out, rfl⟩
  clear HB HG hc1
  go_loopg [7, 9, 10] l.length (fun g sx se si wx => ∃ (j : Nat) (x e : Int), j + g = l.length ∧ si = .int .i64 j ∧ sx = .int .u64 x ∧ se = .int .u64 e ∧ Hid (U64 x ∧ U64 e ∧ w.grownBy wx none ∧ Bk wx w.heap.size 24 p.cells ∧ atGo p i (l.drop j) x e = atI p l i))
  case atStart => exact ⟨0, _, _, by omega, rfl, rfl, rfl, HS⟩
  case round =>
    obtain ⟨j, x, e, hj, rfl, rfl, rfl, HX⟩ := hrel
    cases gk with
    | zero =>
      obtain rfl : j = l.length := by omega
      have HE : Hid (x = atI p l i) := Lib.hid (by have := HX.out.2.2.2.2; rwa [List.drop_length] at this)
      have HGG := Lib.hid HX.out.2.2.1
      clear HX
      go_wp2
      go_ret
      exact ⟨ret_u64 HE.out, HGG.out⟩
    | succ k =>
      have hjn : (j : Int) < (l.length : Int) := by omega
      have hjN : j < l.length := by omega
      obtain ⟨hx, he, hg, hb, hs⟩ := HX.out
      obtain ⟨g, o, c', e', _, _, hc, hu⟩ := (H.out.kept hg).atU hjN
      injection e' with e1 e2 e3
      subst e1 e3
      have hp := hb.prule
      rw [atGo_step p i l j hjN] at hs
      have HS := Lib.hid hs
      have HXu := Lib.hid hx
      have HEu := Lib.hid he
      have HU := Lib.hid hu
      have HGr := Lib.hid hg
      have HBk := Lib.hid hb
      have HC : Hid (∀ w', wr.grownBy w' none → w'.cell? ⟨g, o + j, none⟩ = some (.int .u64 l[j])) := Lib.hid (fun w' hw => by
        obtain ⟨g', o', c'', e'', _, _, hc', _⟩ := ((H.out.kept hg).kept hw).atU hjN
        injection e'' with e1 e2 e3
        injection e1 with e1
        injection e1 with e1 e1'
        subst e1 e1'
        exact hc')
      generalize l[j] = y at *
      clear hx he hg hb hs hu e2 HX
      go_wp2_with fail
      go_region_held3 (fun w' => (∀ o, w'.cell? ⟨w.heap.size, o, none⟩ = (#[.int .u64 p.P, .int .u64 p.Q, .int .u64 p.G, .int .u64 p.H, .int .i64 p.Nodes, .int .i64 p.N, .int .i64 p.T, .int .i64 p.K, .int .i64 p.D, .int .i64 p.R, .int .i64 p.M, .int .i64 p.X] : Array Value)[o]?) ∧ w'.cell? ⟨g, o + j, none⟩ = some (.int .u64 y)) (first | (exact ⟨by assumption, by assumption⟩) | exact ⟨rule_alloc (by assumption) (by assumption) _, by assumption⟩ | go_keep)
        (first
        | (go_at_call 9; (with_reducible refine (rpower_any p HP.out y e _ HU.out HEu.out).mono ?_); rintro e' w2 ⟨rfl, hg⟩; have HG2 := Lib.hid ((grownBy_drewN (World.grownBy.refl wr none) 1).trans hg); have HB2 := Lib.hid (HBk.out.grown HG2.out (by simp)); have hp2 := HB2.out.prule; have hs2 := HB2.out.lt; have hc2 := HC.out w2 HG2.out; have hc3 := HC.out (w2.alloc (Obj.cells #[.int .u64 x, .int .u64 (powI y e p.P)] 22)) (HG2.out.trans (World.grownBy_alloc w2 _ none)); clear hg)
        | (go_at_call 7; (with_reducible refine (rtimes_two p x (powI y e p.P) w2 HP.out HXu.out (powI_U64' y e p.P)).mono ?_); rintro e' w3 ⟨rfl, hg⟩; have HG3 := Lib.hid (HG2.out.trans hg); have HB3 := Lib.hid (HB2.out.grown hg (by simp)); have hp3 := HB3.out.prule; have hc4 := HC.out w3 HG3.out; clear hg))
      go_wp2_with fail
      refine (refmul_any e i p.Q _ HEu.out HI.out HP.out.Q).mono ?_
      rintro e' w' ⟨rfl, n', rfl⟩
      go_wp2
      go_roundg k
      case measure => omega
      case rel => exact ⟨j + 1, _, _, by omega, by go_num, rfl, rfl, Lib.hid ⟨timesI_U64 _ _, mulI_U64 _ _ _, grownBy_drewN (HGr.out.trans HG3.out) n', HB3.out.drewN n', HS.out⟩⟩
theorem atGo_no_step (p : Par) (i : Int) (hq : mayB p.Q = false) (l : List Int) (j : Nat) (h : j < l.length) (x : Int) : atGo p i (l.drop j) x 0 = atGo p i (l.drop (j + 1)) (timesI p.P [x, powI l[j] 0 p.P]) 0 := by
  rw [atGo_step p i l j h, mulI_no _ _ _ hq]
set_option maxHeartbeats 400000 in
theorem rat_no0 (p : Par) (v : Value) (l : List Int) (i : Int) (X : Nat → Prop) (w : World) (hp : p.ok) (h : Sl encU X w v l) (hi : U64 i) (hq : mayB p.Q = false) (h0 : p.Q = 0) :
    Calls Try.prog 13 #[p.v, v, .int .u64 i] w fun e' w' => e' = .returned (.int .u64 (atI p l i)) ∧ w.grownBy w' none := by
  have H := Lib.hid h
  have HP := Lib.hid hp
  have HQ := Lib.hid hq
  have hq0 := hp.Q.1
  have HAt : Hid (atI p l i = atGo p i (l.drop 0) (timesI p.P []) 0) := Lib.hid (by rw [atI, mulI_no _ _ _ hq]; rfl)
  obtain ⟨A, c, rfl, h1, h2⟩ := h.form
  have hb : (p.Q == 0) = true := by simpa using h0
  clear h0
  clear h hi hp hq
  go_enter Try.func13, Try.ntmps13
  go_wp2_with fail
  refine (rtimes_nil p _ HP.out).mono ?_
  rintro e w1 ⟨rfl, hg⟩
  have HG := Lib.hid hg
  have HB : Hid (Bk w1 w.heap.size 24 p.cells) := Lib.hid ((Bk.new w _ _).grown hg (by simp))
  have hc1 := HB.out.prule
  have HS : Hid (U64 (timesI p.P []) ∧ w.grownBy w1 none ∧ Bk w1 w.heap.size 24 p.cells ∧ atGo p i (l.drop 0) (timesI p.P []) 0 = atI p l i) :=
    Lib.hid ⟨timesI_U64 _ _, (World.grownBy_alloc w _ none).trans hg, HB.out, HAt.out.symm⟩
  clear hg
  go_wp2_with fail
  clear HB HG hc1
  go_loopg [7, 8] l.length (fun g sx si wx => ∃ (j : Nat) (x : Int), j + g = l.length ∧ si = .int .i64 j ∧ sx = .int .u64 x ∧ Hid (U64 x ∧ w.grownBy wx none ∧ Bk wx w.heap.size 24 p.cells ∧ atGo p i (l.drop j) x 0 = atI p l i))
  case atStart => exact ⟨0, _, by omega, rfl, rfl, HS⟩
  case round =>
    obtain ⟨j, x, hj, rfl, rfl, HX⟩ := hrel
    cases gk with
    | zero =>
      obtain rfl : j = l.length := by omega
      have HE : Hid (x = atI p l i) := Lib.hid (by have := HX.out.2.2.2; rwa [List.drop_length] at this)
      have HGG := Lib.hid HX.out.2.1
      clear HX
      go_wp2
      go_ret
      exact ⟨ret_u64 HE.out, HGG.out⟩
    | succ k =>
      have hjn : (j : Int) < (l.length : Int) := by omega
      have hjN : j < l.length := by omega
      obtain ⟨hx, hg, hb, hs⟩ := HX.out
      obtain ⟨g, o, c', e', _, _, hc, hu⟩ := (H.out.kept hg).atU hjN
      injection e' with e1 e2 e3
      subst e1 e3
      have hp := hb.prule
      rw [atGo_no_step p i HQ.out l j hjN] at hs
      have HS := Lib.hid hs
      have HXu := Lib.hid hx
      have HU := Lib.hid hu
      have HGr := Lib.hid hg
      have HBk := Lib.hid hb
      have HC : Hid (∀ w', wr.grownBy w' none → w'.cell? ⟨g, o + j, none⟩ = some (.int .u64 l[j])) := Lib.hid (fun w' hw => by
        obtain ⟨g', o', c'', e'', _, _, hc', _⟩ := ((H.out.kept hg).kept hw).atU hjN
        injection e'' with e1 e2 e3
        injection e1 with e1
        injection e1 with e1 e1'
        subst e1 e1'
        exact hc')
      generalize l[j] = y at *
      clear hx hg hb hs hu e2 HX
      go_wp2_with fail
      go_region_held3 (fun w' => (∀ o, w'.cell? ⟨w.heap.size, o, none⟩ = (#[.int .u64 p.P, .int .u64 p.Q, .int .u64 p.G, .int .u64 p.H, .int .i64 p.Nodes, .int .i64 p.N, .int .i64 p.T, .int .i64 p.K, .int .i64 p.D, .int .i64 p.R, .int .i64 p.M, .int .i64 p.X] : Array Value)[o]?) ∧ w'.cell? ⟨g, o + j, none⟩ = some (.int .u64 y)) (first | (exact ⟨by assumption, by assumption⟩) | exact ⟨rule_alloc (by assumption) (by assumption) _, by assumption⟩ | go_keep)
        (first
        | (go_at_call 9; (with_reducible refine (rpower_any p HP.out y 0 _ HU.out u64_zero).mono ?_); rintro e' w2 ⟨rfl, hg⟩; have HG2 := Lib.hid ((grownBy_drewN (World.grownBy.refl wr none) 1).trans hg); have HB2 := Lib.hid (HBk.out.grown HG2.out (by simp)); have hp2 := HB2.out.prule; have hs2 := HB2.out.lt; have hc2 := HC.out w2 HG2.out; have hc3 := HC.out (w2.alloc (Obj.cells #[.int .u64 x, .int .u64 (powI y 0 p.P)] 22)) (HG2.out.trans (World.grownBy_alloc w2 _ none)); clear hg)
        | (go_at_call 7; (with_reducible refine (rtimes_two p x (powI y 0 p.P) w2 HP.out HXu.out (powI_U64' y 0 p.P)).mono ?_); rintro e' w3 ⟨rfl, hg⟩; have HG3 := Lib.hid (HG2.out.trans hg); have HB3 := Lib.hid (HB2.out.grown hg (by simp)); have hp3 := HB3.out.prule; have hc4 := HC.out w3 HG3.out; clear hg))
      go_wp2
      go_roundg k
      case measure => omega
      case rel => exact ⟨j + 1, _, by omega, by go_num, rfl, Lib.hid ⟨timesI_U64 _ _, HGr.out.trans HG3.out, HB3.out, HS.out⟩⟩
set_option maxHeartbeats 400000 in
theorem rat_no1 (p : Par) (v : Value) (l : List Int) (i : Int) (X : Nat → Prop) (w : World) (hp : p.ok) (h : Sl encU X w v l) (hi : U64 i) (hq : mayB p.Q = false) (h0 : 2305843009213693952 < p.Q) :
    Calls Try.prog 13 #[p.v, v, .int .u64 i] w fun e' w' => e' = .returned (.int .u64 (atI p l i)) ∧ w.grownBy w' none := by
  have H := Lib.hid h
  have HP := Lib.hid hp
  have HQ := Lib.hid hq
  have hq0 := hp.Q.1
  have HAt : Hid (atI p l i = atGo p i (l.drop 0) (timesI p.P []) 0) := Lib.hid (by rw [atI, mulI_no _ _ _ hq]; rfl)
  obtain ⟨A, c, rfl, h1, h2⟩ := h.form
  have hb : (p.Q == 0) = false := by simp; omega
  have hb' : decide (2305843009213693952 < p.Q) = true := by simpa using h0
  clear h hi hp hq
  go_enter Try.func13, Try.ntmps13
  go_wp2_with fail
  refine (rtimes_nil p _ HP.out).mono ?_
  rintro e w1 ⟨rfl, hg⟩
  have HG := Lib.hid hg
  have HB : Hid (Bk w1 w.heap.size 24 p.cells) := Lib.hid ((Bk.new w _ _).grown hg (by simp))
  have hc1 := HB.out.prule
  have HS : Hid (U64 (timesI p.P []) ∧ w.grownBy w1 none ∧ Bk w1 w.heap.size 24 p.cells ∧ atGo p i (l.drop 0) (timesI p.P []) 0 = atI p l i) :=
    Lib.hid ⟨timesI_U64 _ _, (World.grownBy_alloc w _ none).trans hg, HB.out, HAt.out.symm⟩
  clear hg
  go_wp2_with fail
  clear HB HG hc1
  go_loopg [7, 8] l.length (fun g sx si wx => ∃ (j : Nat) (x : Int), j + g = l.length ∧ si = .int .i64 j ∧ sx = .int .u64 x ∧ Hid (U64 x ∧ w.grownBy wx none ∧ Bk wx w.heap.size 24 p.cells ∧ atGo p i (l.drop j) x 0 = atI p l i))
  case atStart => exact ⟨0, _, by omega, rfl, rfl, HS⟩
  case round =>
    obtain ⟨j, x, hj, rfl, rfl, HX⟩ := hrel
    cases gk with
    | zero =>
      obtain rfl : j = l.length := by omega
      have HE : Hid (x = atI p l i) := Lib.hid (by have := HX.out.2.2.2; rwa [List.drop_length] at this)
      have HGG := Lib.hid HX.out.2.1
      clear HX
      go_wp2
      go_ret
      exact ⟨ret_u64 HE.out, HGG.out⟩
    | succ k =>
      have hjn : (j : Int) < (l.length : Int) := by omega
      have hjN : j < l.length := by omega
      obtain ⟨hx, hg, hb, hs⟩ := HX.out
      obtain ⟨g, o, c', e', _, _, hc, hu⟩ := (H.out.kept hg).atU hjN
      injection e' with e1 e2 e3
      subst e1 e3
      have hp := hb.prule
      rw [atGo_no_step p i HQ.out l j hjN] at hs
      have HS := Lib.hid hs
      have HXu := Lib.hid hx
      have HU := Lib.hid hu
      have HGr := Lib.hid hg
      have HBk := Lib.hid hb
      have HC : Hid (∀ w', wr.grownBy w' none → w'.cell? ⟨g, o + j, none⟩ = some (.int .u64 l[j])) := Lib.hid (fun w' hw => by
        obtain ⟨g', o', c'', e'', _, _, hc', _⟩ := ((H.out.kept hg).kept hw).atU hjN
        injection e'' with e1 e2 e3
        injection e1 with e1
        injection e1 with e1 e1'
        subst e1 e1'
        exact hc')
      generalize l[j] = y at *
      clear hx hg hb hs hu e2 HX
      go_wp2_with fail
      go_region_held3 (fun w' => (∀ o, w'.cell? ⟨w.heap.size, o, none⟩ = (#[.int .u64 p.P, .int .u64 p.Q, .int .u64 p.G, .int .u64 p.H, .int .i64 p.Nodes, .int .i64 p.N, .int .i64 p.T, .int .i64 p.K, .int .i64 p.D, .int .i64 p.R, .int .i64 p.M, .int .i64 p.X] : Array Value)[o]?) ∧ w'.cell? ⟨g, o + j, none⟩ = some (.int .u64 y)) (first | (exact ⟨by assumption, by assumption⟩) | exact ⟨rule_alloc (by assumption) (by assumption) _, by assumption⟩ | go_keep)
        (first
        | (go_at_call 9; (with_reducible refine (rpower_any p HP.out y 0 _ HU.out u64_zero).mono ?_); rintro e' w2 ⟨rfl, hg⟩; have HG2 := Lib.hid ((grownBy_drewN (World.grownBy.refl wr none) 1).trans hg); have HB2 := Lib.hid (HBk.out.grown HG2.out (by simp)); have hp2 := HB2.out.prule; have hs2 := HB2.out.lt; have hc2 := HC.out w2 HG2.out; have hc3 := HC.out (w2.alloc (Obj.cells #[.int .u64 x, .int .u64 (powI y 0 p.P)] 22)) (HG2.out.trans (World.grownBy_alloc w2 _ none)); clear hg)
        | (go_at_call 7; (with_reducible refine (rtimes_two p x (powI y 0 p.P) w2 HP.out HXu.out (powI_U64' y 0 p.P)).mono ?_); rintro e' w3 ⟨rfl, hg⟩; have HG3 := Lib.hid (HG2.out.trans hg); have HB3 := Lib.hid (HB2.out.grown hg (by simp)); have hp3 := HB3.out.prule; have hc4 := HC.out w3 HG3.out; clear hg))
      go_wp2
      go_roundg k
      case measure => omega
      case rel => exact ⟨j + 1, _, by omega, by go_num, rfl, Lib.hid ⟨timesI_U64 _ _, HGr.out.trans HG3.out, HB3.out, HS.out⟩⟩
theorem rat_all (p : Par) (v : Value) (l : List Int) (i : Int) (X : Nat → Prop) (w : World) (hp : p.ok) (h : Sl encU X w v l) (hi : U64 i) :
    Calls Try.prog 13 #[p.v, v, .int .u64 i] w fun e' w' => e' = .returned (.int .u64 (atI p l i)) ∧ w.grownBy w' none := by
  cases hq : mayB p.Q with
  | true => exact rat_may p v l i X w hp h hi hq
  | false =>
    rcases may_cases hq hp.Q.1 with h0 | h0
    · exact rat_no0 p v l i X w hp h hi hq h0
    · exact rat_no1 p v l i X w hp h hi hq h0
end Go.Proofs.Ytnjbigbiclfcoaa
