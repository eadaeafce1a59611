/- The document's Times, Power, Commit, At, Is of the layer group, walked: what they tell is what group's tell. -/
import Derived.Test.YtnjbigbiclfcoaaDoorGrpB
namespace Go.Proofs.YtnjbigbiclfcoaaDoor
open Go.RowKit

theorem u64_zero : U64 0 := by decide
theorem mulI_no (a b m : Int) (hm : mayB m = false) : mulI a b m = 0 := by simp [mulI, hm]
theorem timesI_no (P : Int) (l : List Int) (hm : mayB P = false) : timesI P l = 0 := by
  unfold timesI
  rcases List.eq_nil_or_concat l with rfl | ⟨l', x, rfl⟩
  · exact mulI_no _ _ _ hm
  · rw [List.concat_eq_append, List.foldl_append]
    exact mulI_no _ _ _ hm
theorem one_mod (P : Int) (hm : mayB P = true) : 1 % P = timesI P [] := by
  show _ = mulI 1 1 P
  rw [mulI_yes _ _ _ hm, Int.mul_one]
theorem one_mod_emod {a b : Int} (h : a = b) : a = b := h
set_option maxHeartbeats 400000 in
theorem rtimes_any (p : Par) (v : Value) (l : List Int) (X : Nat → Prop) (w : World) (hp : p.ok) (h : Sl encU X w v l) :
    Calls Tryd.prog 52 #[p.v, v] w fun e w' => e = .returned (.int .u64 (timesI p.P l)) ∧ w.grownBy w' none := by
  have H := Lib.hid h
  have HP := Lib.hid hp.P
  have hp0 : 0 ≤ p.P := hp.P.1
  have hp1 : p.P < 18446744073709551616 := hp.P.2
  obtain ⟨A, c, rfl, h1, h2⟩ := h.form
  clear h hp
  cases hm : mayB p.P with
  | false =>
    have HE : Hid (timesI p.P l = 0) := Lib.hid (timesI_no _ _ hm)
    rcases may_cases hm hp0 with h0 | h0
    · have hb : (p.P == 0) = true := by simpa using h0
      clear hm h0 hp0 hp1
      go_enter Tryd.func52, Tryd.ntmps52
      go_wp2
      go_ret
      exact ⟨ret_u64 HE.out.symm, World.grownBy_alloc w _ none⟩
    · have hb : (p.P == 0) = false := by simp; omega
      have hb' : decide (2305843009213693952 < p.P) = true := by simpa using h0
      clear hm
      go_enter Tryd.func52, Tryd.ntmps52
      go_wp2
      go_ret
      exact ⟨ret_u64 HE.out.symm, World.grownBy_alloc w _ none⟩
  | true =>
    have HM := Lib.hid hm
    obtain ⟨m0, m1⟩ : 0 < p.P ∧ p.P ≤ 2305843009213693952 := by simpa [mayB] using hm
    have hb : (p.P == 0) = false := by simp; omega
    have hb' : decide (2305843009213693952 < p.P) = false := by simp; omega
    have HO := Lib.hid (one_mod p.P hm)
    have HB : Hid (w.grownBy (w.alloc (Obj.cells p.cells 24)) none ∧ Bk (w.alloc (Obj.cells p.cells 24)) w.heap.size 24 p.cells) := Lib.hid ⟨World.grownBy_alloc w _ none, Bk.new w _ _⟩
    clear hm
    go_enter Tryd.func52, Tryd.ntmps52
    go_wp2
    rw [HO.out]
    go_loopg [5, 6] l.length (fun g sx si wx => ∃ j : Nat, j + g = l.length ∧ si = .int .i64 j ∧ sx = .int .u64 (timesI p.P (l.take j)) ∧ Hid (w.grownBy wx none ∧ Bk wx w.heap.size 24 p.cells))
    case atStart => exact ⟨0, by omega, rfl, rfl, HB⟩
    case round =>
      obtain ⟨j, hj, rfl, rfl, HX⟩ := hrel
      cases gk with
      | zero =>
        obtain rfl : j = l.length := by omega
        have HE : Hid (timesI p.P (l.take l.length) = timesI p.P l) := Lib.hid (by rw [List.take_length])
        go_wp2
        go_ret
        exact ⟨ret_u64 HE.out, HX.out.1⟩
      | succ k =>
        have hjn : (j : Int) < (l.length : Int) := by omega
        have hjN : j < l.length := by omega
        obtain ⟨g, o, c', e, _, _, hc, hu⟩ := (H.out.kept HX.out.1).atU hjN
        injection e with e1 e2 e3
        subst e1 e3
        have cP : wr.cell? ⟨w.heap.size, 0, none⟩ = some (.int .u64 p.P) := HX.out.2.cell 0
        have HS := Lib.hid (timesI_snoc p.P l j hjN)
        have HTm := Lib.hid (timesI_U64 p.P (l.take j))
        have HU := Lib.hid hu
        generalize l[j] = y at *
        generalize timesI p.P (l.take j) = t at *
        clear hu e2
        go_wp2_with fail
        go_quiet ((go_at_call 50; exact Calls.quiet_of (refmul_any t y p.P _ HTm.out HU.out HP.out)))
        go_wp2
        go_roundg k
        case measure => omega
        case rel => exact ⟨j + 1, by omega, by go_num, by rw [HS.out], Lib.hid ⟨grownBy_drewN HX.out.1 _, HX.out.2.drewN _⟩⟩
theorem rtimes_nil (p : Par) (w : World) (hp : p.ok) :
    Calls Tryd.prog 52 #[p.v, .slice none 0 0] w fun e w' => e = .returned (.int .u64 (timesI p.P [])) ∧ w.grownBy w' none :=
  rtimes_any p _ [] (fun _ => True) w hp (Sl.nil _ _ _)
theorem rtimes_two (p : Par) (a b : Int) (w : World) (hp : p.ok) (ha : U64 a) (hb : U64 b) :
    Calls Tryd.prog 52 #[p.v, .slice (some ⟨w.heap.size, 0, none⟩) 2 2] (w.alloc (Obj.cells #[.int .u64 a, .int .u64 b] 22)) fun e w' => e = .returned (.int .u64 (timesI p.P [a, b])) ∧ w.grownBy w' none :=
  (rtimes_any p _ [a, b] (fun _ => True) _ hp (Sl.ofBk (t := 22) (Bk.new w 22 (nums [a, b]).toArray) (by intro y hy; simp at hy; rcases hy with rfl | rfl <;> assumption) (by simp))).mono fun _ _ ⟨he, hg⟩ => ⟨he, (World.grownBy_alloc w _ none).trans hg⟩
theorem rtimes_three (p : Par) (a b c : Int) (w : World) (hp : p.ok) (ha : U64 a) (hb : U64 b) (hc : U64 c) :
    Calls Tryd.prog 52 #[p.v, .slice (some ⟨w.heap.size, 0, none⟩) 3 3] (w.alloc (Obj.cells #[.int .u64 a, .int .u64 b, .int .u64 c] 22)) fun e w' => e = .returned (.int .u64 (timesI p.P [a, b, c])) ∧ w.grownBy w' none :=
  (rtimes_any p _ [a, b, c] (fun _ => True) _ hp (Sl.ofBk (t := 22) (Bk.new w 22 (nums [a, b, c]).toArray) (by intro y hy; simp at hy; rcases hy with rfl | rfl | rfl <;> assumption) (by simp))).mono fun _ _ ⟨he, hg⟩ => ⟨he, (World.grownBy_alloc w _ none).trans hg⟩

theorem timesI_two (P a b : Int) (hm : mayB P = true) : timesI P [a, b] = a * b % P := by
  show mulI (mulI (mulI 1 1 P) a P) b P = _
  rw [mulI_yes _ _ _ hm, mulI_yes _ _ _ hm, mulI_yes _ _ _ hm, Int.mul_one]
  exact ((Cg.mod P _).trans ((Cg.mod P 1).mul_right a |>.trans (Cg.of_eq (Int.one_mul a)))).mul_right b
theorem timesI_three (P a b c : Int) (hm : mayB P = true) : timesI P [a, b, c] = a * b * c % P := by
  show mulI (timesI P [a, b]) c P = _
  rw [mulI_yes _ _ _ hm, timesI_two _ _ _ hm]
  exact (Cg.mod P _).mul_right c
theorem rpow_zero (a P : Int) : timesI P [] = powI a 0 P := by
  cases hm : mayB P with
  | false => rw [timesI_no _ _ hm]; simp [powI, hm]
  | true => rw [← one_mod P hm]; simp [powI, hm]
theorem rpow_even (a e P : Int) (he : 0 ≤ e) (h2 : e % 2 = 0) : timesI P [powI a (e / 2) P, powI a (e / 2) P] = powI a e P := by
  cases hm : mayB P with
  | false => rw [timesI_no _ _ hm]; simp [powI, hm]
  | true => rw [timesI_two _ _ _ hm, ← pow_even a e P he h2, mulI_yes _ _ _ hm]
theorem rpow_odd (a e P : Int) (he : 0 ≤ e) (h2 : e % 2 = 1) : timesI P [powI a (e / 2) P, powI a (e / 2) P, a] = powI a e P := by
  cases hm : mayB P with
  | false => rw [timesI_no _ _ hm]; simp [powI, hm]
  | true =>
    rw [timesI_three _ _ _ _ hm, ← pow_odd a e P he h2, mulI_yes _ _ _ hm, mulI_yes _ _ _ hm]
    exact ((Cg.mod P _).mul_right a).symm

set_option maxHeartbeats 400000 in
theorem rpower_fuel (p : Par) (hp : p.ok) (x : Int) (hx : U64 x) : ∀ (f : Nat) (e : Int) (w : World), 0 ≤ e → e < 18446744073709551616 → e.toNat < 2 ^ f →
    Calls Tryd.prog 48 #[p.v, .int .u64 x, .int .u64 e] w fun e' w' => e' = .returned (.int .u64 (powI x e p.P)) ∧ w.grownBy w' none := by
  have HA := Lib.hid hx
  have HP := Lib.hid hp
  clear hx hp
  have base : ∀ w : World, Calls Tryd.prog 48 #[p.v, .int .u64 x, .int .u64 0] w fun e' w' => e' = .returned (.int .u64 (powI x 0 p.P)) ∧ w.grownBy w' none := by
    intro w
    rw [← rpow_zero]
    go_enter Tryd.func48, Tryd.ntmps48
    go_wp2_with fail
    refine (rtimes_nil p _ HP.out).mono ?_
    rintro e w1 ⟨rfl, hg⟩
    have HG := Lib.hid hg
    clear hg
    go_wp2
    go_ret
    exact ⟨rfl, (World.grownBy_alloc w _ none).trans HG.out⟩
  intro f
  induction f with
  | zero =>
    intro e w h0 h1 hf
    have : e = 0 := by simp at hf; omega
    subst this
    exact base w
  | succ f ih =>
    intro e w h0 h1 hf
    by_cases hz : e = 0
    · subst hz
      exact base w
    · have hz' : (e == 0) = false := by simpa using hz
      have HI := Lib.hid (fun w => ih (e / 2) w (by omega) (by omega) (by rw [Nat.pow_succ] at hf; omega))
      have HH := Lib.hid (powI_U64' x (e / 2) p.P)
      clear ih hf hz base
      by_cases h2 : e % 2 = 1
      · have h2' : (e % 2 == 1) = true := by simpa using h2
        rw [← rpow_odd x e p.P h0 h2]
        clear h2
        go_enter Tryd.func48, Tryd.ntmps48
        go_wp2_with fail
        refine (HI.out _).mono ?_
        rintro e w1 ⟨rfl, hg⟩
        have HG := Lib.hid hg
        have hp1 := ((Bk.new w 24 p.cells).grown hg (by simp)).prule
        clear hg
        go_wp2_with fail
        refine (rtimes_three p _ _ x w1 HP.out HH.out HH.out HA.out).mono ?_
        rintro e w2 ⟨rfl, hg⟩
        have HG2 := Lib.hid hg
        clear hg
        go_wp2
        go_ret
        exact ⟨rfl, (World.grownBy_alloc w _ none).trans (HG.out.trans HG2.out)⟩
      · have h2' : (e % 2 == 1) = false := by simpa using h2
        rw [← rpow_even x e p.P h0 (by omega)]
        clear h2
        go_enter Tryd.func48, Tryd.ntmps48
        go_wp2_with fail
        refine (HI.out _).mono ?_
        rintro e w1 ⟨rfl, hg⟩
        have HG := Lib.hid hg
        have hp1 := ((Bk.new w 24 p.cells).grown hg (by simp)).prule
        clear hg
        go_wp2_with fail
        refine (rtimes_two p _ _ w1 HP.out HH.out HH.out).mono ?_
        rintro e w2 ⟨rfl, hg⟩
        have HG2 := Lib.hid hg
        clear hg
        go_wp2
        go_ret
        exact ⟨rfl, (World.grownBy_alloc w _ none).trans (HG.out.trans HG2.out)⟩
theorem rpower_any (p : Par) (hp : p.ok) (x e : Int) (w : World) (hx : U64 x) (he : U64 e) :
    Calls Tryd.prog 48 #[p.v, .int .u64 x, .int .u64 e] w fun e' w' => e' = .returned (.int .u64 (powI x e p.P)) ∧ w.grownBy w' none := by
  obtain ⟨e0, e1⟩ := he
  exact rpower_fuel p hp x hx 64 e w e0 e1 (by have : (2 : Nat) ^ 64 = 18446744073709551616 := by decide
                                               omega)
set_option maxHeartbeats 400000 in
theorem ris_any (p : Par) (x : Int) (w : World) (hp : p.ok) (h1 : U64 x) :
    Calls Tryd.prog 45 #[p.v, .int .u64 x] w fun e' w' => e' = .returned (.bool (isB p x)) ∧ w.grownBy w' none := by
  have HP := Lib.hid hp
  have H1 := Lib.hid h1
  have hx0 := h1.1
  clear hp h1
  by_cases hm : p.P ≤ 2305843009213693952
  · by_cases ha : 1 ≤ x
    · by_cases hb : x < p.P
      · have HE : Hid (isB p x = (powI x p.Q p.P == 1)) := Lib.hid (by simp [isB, ha, hb])
        go_enter Tryd.func45, Tryd.ntmps45
        go_wp2_with fail
        refine (rpower_any p HP.out x p.Q _ H1.out HP.out.Q).mono ?_
        rintro e w1 ⟨rfl, hg⟩
        have HG := Lib.hid hg
        clear hg
        go_wp2
        go_ret
        exact ⟨ret_bool HE.out.symm, (World.grownBy_alloc w _ none).trans HG.out⟩
      · have HE : Hid (isB p x = false) := Lib.hid (by simp [isB, hb])
        have hb' : decide (x < p.P) = false := by simpa using hb
        clear hb
        go_enter Tryd.func45, Tryd.ntmps45
        go_wp2_with fail
        go_ret
        exact ⟨ret_bool HE.out.symm, World.grownBy_alloc w _ none⟩
    · have HE : Hid (isB p x = false) := Lib.hid (by simp [isB, ha])
      go_enter Tryd.func45, Tryd.ntmps45
      go_wp2_with fail
      go_ret
      exact ⟨ret_bool HE.out.symm, World.grownBy_alloc w _ none⟩
  · have HE : Hid (isB p x = false) := Lib.hid (by
      have : powI x p.Q p.P = 0 := by simp [powI, mayB]; omega
      simp [isB, this])
    go_enter Tryd.func45, Tryd.ntmps45
    go_wp2_with fail
    go_ret
    exact ⟨ret_bool HE.out.symm, World.grownBy_alloc w _ none⟩
theorem atGo_no (p : Par) (i : Int) (hq : mayB p.Q = false) : ∀ (l : List Int) (x : Int), atGo p i l x 0 = l.foldl (fun x y => timesI p.P [x, powI y 0 p.P]) x
  | [], x => rfl
  | y :: l, x => by rw [atGo, mulI_no _ _ _ hq]; exact atGo_no p i hq l _
theorem atGo_no_step (p : Par) (i : Int) (hq : mayB p.Q = false) (l : List Int) (j : Nat) (h : j < l.length) (x : Int) : atGo p i (l.drop j) x 0 = atGo p i (l.drop (j + 1)) (timesI p.P [x, powI l[j] 0 p.P]) 0 := by
  rw [atGo_step p i l j h, mulI_no _ _ _ hq]
end Go.Proofs.YtnjbigbiclfcoaaDoor
