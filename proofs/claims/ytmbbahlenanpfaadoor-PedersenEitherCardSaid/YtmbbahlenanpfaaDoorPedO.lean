/- consistorylaw08.PedersenEither, walked. -/
import Derived.Test.YtmbbahlenanpfaaDoorPedL
import Derived.Test.YtmbbahlenanpfaaDoorPedM
import Derived.Test.YtmbbahlenanpfaaDoorPedN
import Derived.Test.YtmbbahlenanpfaaDoorMayB
import Derived.Test.YtmbbahlenanpfaaDoorGrpM
namespace Go.Proofs.YtmbbahlenanpfaaDoor
open Go Go.RowKit

theorem secretsI_of {p : Par} (h : Good p) : secretsI p = p.K * (p.D + 1) := by
  obtain ⟨k1, k2⟩ := h.K
  obtain ⟨d1, d2⟩ := h.D
  unfold secretsI
  have e1 : wrap64 (p.D + 1) = p.D + 1 := by unfold wrap64; omega
  rw [e1]
  have h1 : 0 ≤ p.K * (p.D + 1) := Int.mul_nonneg (by omega) (by omega)
  have h2 : p.K * (p.D + 1) ≤ 2 * 5 := Int.mul_le_mul k2 (by omega) (by omega) (by omega)
  unfold wrap64
  omega
theorem secretsI_bd {p : Par} (h : Good p) : 1 ≤ secretsI p ∧ secretsI p ≤ 10 := by
  obtain ⟨k1, k2⟩ := h.K
  obtain ⟨d1, d2⟩ := h.D
  rw [secretsI_of h]
  have h2 : p.K * (p.D + 1) ≤ 2 * 5 := Int.mul_le_mul k2 (by omega) (by omega) (by omega)
  have h3 : 1 * 1 ≤ p.K * (p.D + 1) := Int.mul_le_mul k1 (by omega) (by omega) (by omega)
  omega
set_option maxRecDepth 100000 in
set_option maxHeartbeats 2000000 in
theorem either_any (p : Par) (v : Value) (l : List Int) (x y : Int) (w : World) (hp : p.ok) (h : Sl encU (fun _ => True) w v l) (hx : U64 x) (hy : U64 y) (hT : TabsAt w) :
    Calls Tryd.prog 5 #[p.v, v, .int .u64 x, .int .u64 y] w fun e w' => e = .returned (.bool true) ∧ w.grownBy w' none := by
  have HP := Lib.hid hp
  have HL := Lib.hid h
  have HX := Lib.hid hx
  have HY := Lib.hid hy
  obtain ⟨A, c, rfl, hl1, hl2⟩ := h.form
  have HB0 : Hid (Bk (w.alloc (Obj.cells p.cells 24)) w.heap.size 24 p.cells) := Lib.hid (Bk.new w _ _)
  have HG0 : Hid (w.grownBy (w.alloc (Obj.cells p.cells 24)) none) := Lib.hid (World.grownBy_alloc w _ none)
  have HM := Lib.hid (fun (w' : World) (hg : w.grownBy w' none) => may_any p w' hp (hT.kept hg))
  clear h hp hx hy hT
  cases hm : mayP p with
  | false =>
    rw [hm] at HM
    clear hm
    go_enter Tryd.func5, Tryd.ntmps5
    go_wp2_with fail
    refine (works08_any _).mono ?_
    rintro e w1 ⟨rfl, hg⟩
    have HG1 := hidTrans hg HG0
    have hp1 := (bkGrown hg HB0).out.prule
    clear hg
    go_wp2_with fail
    refine (HM.out _ HG1.out).mono ?_
    rintro e w2 ⟨rfl, hg⟩
    have HG2 := hidTrans hg HG1
    clear hg
    go_wp2_with fail
    refine (works08_any _).mono ?_
    rintro e w3 ⟨rfl, hg⟩
    have HG3 := hidTrans hg HG2
    clear hg
    go_wp2
    go_ret
    exact ⟨rfl, HG3.out⟩
  | true =>
    have HGd := Lib.hid (good_of hm)
    rw [hm] at HM
    clear hm
    by_cases hb : 1000 < l.length
    · have hb' : decide ((1000 : Int) < (l.length : Int)) = true := by simp; omega
      go_enter Tryd.func5, Tryd.ntmps5
      go_wp2_with fail
      refine (works08_any _).mono ?_
      rintro e w1 ⟨rfl, hg⟩
      have HG1 := hidTrans hg HG0
      have hp1 := (bkGrown hg HB0).out.prule
      clear hg
      go_wp2_with fail
      refine (HM.out _ HG1.out).mono ?_
      rintro e w2 ⟨rfl, hg⟩
      have HG2 := hidTrans hg HG1
      clear hg
      go_wp2_with fail
      refine (works08_any _).mono ?_
      rintro e w3 ⟨rfl, hg⟩
      have HG3 := hidTrans hg HG2
      clear hg
      go_wp2
      go_ret
      exact ⟨rfl, HG3.out⟩
    · have hb' : decide ((1000 : Int) < (l.length : Int)) = false := by simp; omega
      obtain ⟨S, hS⟩ : ∃ S : Nat, secretsI p = (S : Int) := ⟨(secretsI p).toNat, by have := secretsI_bd HGd.out; omega⟩
      obtain ⟨n, hn⟩ : ∃ n : Nat, p.T + 1 = (n : Int) := ⟨(p.T + 1).toNat, by have := HGd.out.T; omega⟩
      have hS9 : S ≤ 10 := by have := secretsI_bd HGd.out; omega
      have hT0 : 0 ≤ p.T := by have := HGd.out.T; omega
      have hn1 : 0 < n := by omega
      have hn9 : n ≤ 3 := by have := HGd.out.T; omega
      have hsh := mat_shape p (xCube l n S) n n hn1 (fun a ha => by
        simp only [xCube, List.mem_map, List.mem_range] at ha
        obtain ⟨s, _, rfl⟩ := ha
        refine ⟨xSq_length _ _ _ _, fun r hr => ?_⟩
        simp only [xSq, List.mem_map, List.mem_range] at hr
        obtain ⟨i, _, rfl⟩ := hr
        exact xRow_length _ _ _)
      rw [xCube_length] at hsh
      have HTWO : Hid (∀ w', w.grownBy w' none → Calls Tryd.prog 14 #[p.v, .slice A l.length c] w' (Gives (encS (encS encU)) (fun g => w'.heap.size ≤ g) w' (xCube l n S))) := Lib.hid (fun w' hw => two_any p _ l n S _ w' (HL.out.kept hw) hn hT0 (by omega) hS (by omega))
      have HMAT : Hid (∀ w' v', Sl (encS (encS encU)) TT w' v' (xCube l n S) → Calls Tryd.prog 16 #[p.v, v', .slice none 0 0] w' (Gives (encS (encS encU)) (fun g => w'.heap.size ≤ g) w' (matI p (xCube l n S) []))) := Lib.hid (fun w' v' hv => matrix_any p v' _ (xCube l n S) [] TT w' HP.out hv (Sl.nil _ _ _) (by rw [xCube_length]; omega) (by simp) (fun a ha => by
        simp only [xCube, List.mem_map, List.mem_range] at ha
        obtain ⟨s, _, rfl⟩ := ha
        refine ⟨by rw [xSq_length]; omega, fun r hr => ?_⟩
        simp only [xSq, List.mem_map, List.mem_range] at hr
        obtain ⟨i, _, rfl⟩ := hr
        rw [xRow_length]
        omega) (by simp))
      have hml : (matI p (xCube l n S) []).length ≤ 100000 := by rw [hsh.1]; omega
      have hmr : ∀ M ∈ matI p (xCube l n S) [], M.length ≤ 100000 ∧ ∀ r ∈ M, r.length ≤ 100000 := fun M hM => by
        obtain ⟨⟨_, h1⟩, h2⟩ := hsh.2 M hM
        exact ⟨by omega, fun r hr => by rw [h2 r hr]; omega⟩
      have HROW : Hid (∀ w' v', Sl (encS (encS encU)) TT w' v' (matI p (xCube l n S) []) → Calls Tryd.prog 20 #[p.v, v', .int .u64 x] w' (Gives (encS encU) (fun g => w'.heap.size ≤ g) w' (rowComsI p (matI p (xCube l n S) []) x))) := Lib.hid (fun w' v' hv => rowComs_any p v' _ x TT w' hv HX.out hml hmr)
      have HCOL : Hid (∀ w' v', Sl (encS (encS encU)) TT w' v' (matI p (xCube l n S) []) → Calls Tryd.prog 21 #[p.v, v', .int .u64 y] w' (Gives (encS encU) (fun g => w'.heap.size ≤ g) w' (colComsI p (matI p (xCube l n S) []) y))) := Lib.hid (fun w' v' hv => colComs_any p v' _ y TT w' hv HY.out hml (fun M hM => (hmr M hM).1))
      have HSHR : Hid (∀ w' v', Sl (encS encU) TT w' v' (rowComsI p (matI p (xCube l n S) []) x) → Calls Tryd.prog 19 #[p.v, v', .int .u64 y] w' (Gives encU (fun g => w'.heap.size ≤ g) w' (shareI p (rowComsI p (matI p (xCube l n S) []) x) y))) := Lib.hid (fun w' v' hv => share_any p v' _ y TT w' hv HY.out (by rw [rowComsI, List.length_map]; exact hml))
      have HSHC : Hid (∀ w' v', Sl (encS encU) TT w' v' (colComsI p (matI p (xCube l n S) []) y) → Calls Tryd.prog 19 #[p.v, v', .int .u64 x] w' (Gives encU (fun g => w'.heap.size ≤ g) w' (shareI p (colComsI p (matI p (xCube l n S) []) y) x))) := Lib.hid (fun w' v' hv => share_any p v' _ x TT w' hv HX.out (by rw [colComsI, List.length_map]; exact hml))
      have HNUM : Hid (∀ w' v1 v2, Sl encU TT w' v1 (shareI p (rowComsI p (matI p (xCube l n S) []) x) y) → Sl encU TT w' v2 (shareI p (colComsI p (matI p (xCube l n S) []) y) x) → Calls Tryd.prog 18 #[v1, v2] w' (Quietly w' (.bool true))) := Lib.hid (fun w' v1 v2 h1 h2 => by
        rw [either_all HGd.out.P _ n (fun M hM => ⟨(hsh.2 M hM).1.1, (hsh.2 M hM).2⟩) x y] at h1
        exact nums_eq v1 v2 _ _ _ w' h1 h2)
      clear hS hn hS9 hT0 hn1 hn9 hsh hml hmr
      go_enter Tryd.func5, Tryd.ntmps5
      go_wp2_with fail
      refine (works08_any _).mono ?_
      rintro e w1 ⟨rfl, hg⟩
      have HG1 := hidTrans hg HG0
      have HB1 := bkGrown hg HB0
      have hp1 := HB1.out.prule
      clear hg
      go_wp2_with fail
      refine (HM.out _ HG1.out).mono ?_
      rintro e w2 ⟨rfl, hg⟩
      have HG2 := hidTrans hg HG1
      have HB3 : Hid (Bk w2.drew w.heap.size 24 p.cells) := Lib.hid ((bkGrown hg HB1).out.drewN 1)
      have HG3 : Hid (w.grownBy w2.drew none) := Lib.hid (grownBy_drewN HG2.out 1)
      clear hg hp1
      have HTW2 := HTWO
      clear HTWO
      have HTWO : Hid (∀ w', w2.drew.grownBy w' none → Calls Tryd.prog 14 #[p.v, .slice A l.length c] w' (Gives (encS (encS encU)) (fun g => w'.heap.size ≤ g) w' (xCube l n S))) := Lib.hid (fun w' hw => HTW2.out w' (HG3.out.trans hw))
      clear HTW2
      go_wp2_with fail
      refine wp_region_mono 6 (by kernel_rfl) (by kernel_rfl) ?_
      -- op 0 (slot 23): load
      refine MonoR.step (Pv.eq (p.v)) [] (by kernel_rfl) (fun w' hw' => ?_) ?_
      · refine ask_do rfl fun K hK => ?_
        have hp := (HB3.out.grown hw' (by simp)).prule
        go_simp
        exact hK _ _ rfl rfl (World.grownBy.refl _ none)
      -- op 1 (slot 24): load
      refine MonoR.step (Pv.eq (p.v)) [] (by kernel_rfl) (fun w' hw' => ?_) ?_
      · refine ask_do rfl fun K hK => ?_
        have hp := (HB3.out.grown hw' (by simp)).prule
        go_simp
        exact hK _ _ rfl rfl (World.grownBy.refl _ none)
      -- op 2 (slot 25): move
      refine MonoR.step (Pv.eq (.slice A l.length c)) [] (by kernel_rfl) (fun w' hw' => ?_) ?_
      · refine ask_do rfl fun K hK => ?_
        go_simp
        exact hK _ _ rfl rfl (World.grownBy.refl _ none)
      -- op 3 (slot 26): call
      refine MonoR.step (Pv.sl (encS (encS encU)) TT (xCube l n S)) [(1, 24), (2, 25)] (by kernel_rfl) (fun w' hw' => ?_) ?_
      · rintro _ rfl
        rintro _ rfl
        refine ask_do rfl fun K hK => ?_
        go_simp
        refine (HTWO.out w' hw').mono ?_
        rintro e w3 ⟨v3, rfl, h3, hg⟩
        exact hK _ _ rfl (h3.more (fun _ _ _ => trivial)) hg
      -- op 4 (slot 27): call
      refine MonoR.step (Pv.sl (encS (encS encU)) TT (matI p (xCube l n S) [])) [(0, 23), (3, 26)] (by kernel_rfl) (fun w' hw' => ?_) ?_
      · rintro _ rfl
        intro x26 h26
        have h26 : Sl (encS (encS encU)) TT w' x26 (xCube l n S) := h26
        refine ask_do rfl fun K hK => ?_
        obtain ⟨A26, c26, e26, _, _⟩ := h26.form
        subst e26
        go_simp
        refine (HMAT.out w' _ h26).mono ?_
        rintro e w3 ⟨v3, rfl, h3, hg⟩
        exact hK _ _ rfl (h3.more (fun _ _ _ => trivial)) hg
      -- op 5 (slot 9): assign
      refine MonoR.step (Pv.sl (encS (encS encU)) TT (matI p (xCube l n S) [])) [(4, 27)] (by kernel_rfl) (fun w' hw' => ?_) ?_
      · intro x27 h27
        have h27 : Sl (encS (encS encU)) TT w' x27 (matI p (xCube l n S) []) := h27
        refine ask_do rfl fun K hK => ?_
        go_simp
        exact hK _ _ rfl h27 (World.grownBy.refl _ none)
      intro w3 hw3
      iterate 5 (intro _ _)
      intro v9 h9
      have h9 : Sl (encS (encS encU)) TT w3 v9 (matI p (xCube l n S) []) := h9
      have HROW2 : Hid (∀ w', w3.drew.grownBy w' none → Calls Tryd.prog 20 #[p.v, v9, .int .u64 x] w' (Gives (encS encU) (fun g => w'.heap.size ≤ g) w' (rowComsI p (matI p (xCube l n S) []) x))) := Lib.hid (fun w' hw => HROW.out w' v9 (h9.kept ((grown_drewN' w3 1).trans hw)))
      have HCOL2 : Hid (∀ w', w3.drew.grownBy w' none → Calls Tryd.prog 21 #[p.v, v9, .int .u64 y] w' (Gives (encS encU) (fun g => w'.heap.size ≤ g) w' (colComsI p (matI p (xCube l n S) []) y))) := Lib.hid (fun w' hw => HCOL.out w' v9 (h9.kept ((grown_drewN' w3 1).trans hw)))
      have HB4 : Hid (Bk w3.drew w.heap.size 24 p.cells) := Lib.hid ((HB3.out.grown hw3 (by simp)).drewN 1)
      have HG4 : Hid (w.grownBy w3.drew none) := Lib.hid (grownBy_drewN (HG3.out.trans hw3) 1)
      clear hw3 h9 HROW HCOL HB3
      have HROW := HROW2
      have HCOL := HCOL2
      clear HROW2 HCOL2
      refine wpList_nil ?_
      simp only [Act.put, List.setIfInBounds_toArray, List.set_cons_zero, List.set_cons_succ]
      go_wp2_with fail
      refine wp_region_mono 16 (by kernel_rfl) (by kernel_rfl) ?_
      -- op 0 (slot 28): load
      refine MonoR.step (Pv.eq (p.v)) [] (by kernel_rfl) (fun w' hw' => ?_) ?_
      · refine ask_do rfl fun K hK => ?_
        have hp := (HB4.out.grown hw' (by simp)).prule
        go_simp
        exact hK _ _ rfl rfl (World.grownBy.refl _ none)
      -- op 1 (slot 29): load
      refine MonoR.step (Pv.eq (p.v)) [] (by kernel_rfl) (fun w' hw' => ?_) ?_
      · refine ask_do rfl fun K hK => ?_
        have hp := (HB4.out.grown hw' (by simp)).prule
        go_simp
        exact hK _ _ rfl rfl (World.grownBy.refl _ none)
      -- op 2 (slot 30): move
      refine MonoR.step (Pv.eq (v9)) [] (by kernel_rfl) (fun w' hw' => ?_) ?_
      · refine ask_do rfl fun K hK => ?_
        go_simp
        exact hK _ _ rfl rfl (World.grownBy.refl _ none)
      -- op 3 (slot 31): move
      refine MonoR.step (Pv.eq (.int .u64 x)) [] (by kernel_rfl) (fun w' hw' => ?_) ?_
      · refine ask_do rfl fun K hK => ?_
        go_simp
        exact hK _ _ rfl rfl (World.grownBy.refl _ none)
      -- op 4 (slot 32): call
      refine MonoR.step (Pv.sl (encS encU) TT (rowComsI p (matI p (xCube l n S) []) x)) [(1, 29), (2, 30), (3, 31)] (by kernel_rfl) (fun w' hw' => ?_) ?_
      · rintro _ rfl
        rintro _ rfl
        rintro _ rfl
        refine ask_do rfl fun K hK => ?_
        go_simp
        refine (HROW.out w' hw').mono ?_
        rintro e w3 ⟨v3, rfl, h3, hg⟩
        exact hK _ _ rfl (h3.more (fun _ _ _ => trivial)) hg
      -- op 5 (slot 33): move
      refine MonoR.step (Pv.eq (.int .u64 y)) [] (by kernel_rfl) (fun w' hw' => ?_) ?_
      · refine ask_do rfl fun K hK => ?_
        go_simp
        exact hK _ _ rfl rfl (World.grownBy.refl _ none)
      -- op 6 (slot 34): call
      refine MonoR.step (Pv.sl (encU) TT (shareI p (rowComsI p (matI p (xCube l n S) []) x) y)) [(0, 28), (4, 32), (5, 33)] (by kernel_rfl) (fun w' hw' => ?_) ?_
      · rintro _ rfl
        intro x32 h32
        have h32 : Sl (encS encU) TT w' x32 (rowComsI p (matI p (xCube l n S) []) x) := h32
        rintro _ rfl
        refine ask_do rfl fun K hK => ?_
        obtain ⟨A32, c32, e32, _, _⟩ := h32.form
        subst e32
        go_simp
        refine (HSHR.out w' _ h32).mono ?_
        rintro e w3 ⟨v3, rfl, h3, hg⟩
        exact hK _ _ rfl (h3.more (fun _ _ _ => trivial)) hg
      -- op 7 (slot 35): load
      refine MonoR.step (Pv.eq (p.v)) [] (by kernel_rfl) (fun w' hw' => ?_) ?_
      · refine ask_do rfl fun K hK => ?_
        have hp := (HB4.out.grown hw' (by simp)).prule
        go_simp
        exact hK _ _ rfl rfl (World.grownBy.refl _ none)
      -- op 8 (slot 36): load
      refine MonoR.step (Pv.eq (p.v)) [] (by kernel_rfl) (fun w' hw' => ?_) ?_
      · refine ask_do rfl fun K hK => ?_
        have hp := (HB4.out.grown hw' (by simp)).prule
        go_simp
        exact hK _ _ rfl rfl (World.grownBy.refl _ none)
      -- op 9 (slot 37): move
      refine MonoR.step (Pv.eq (v9)) [] (by kernel_rfl) (fun w' hw' => ?_) ?_
      · refine ask_do rfl fun K hK => ?_
        go_simp
        exact hK _ _ rfl rfl (World.grownBy.refl _ none)
      -- op 10 (slot 38): move
      refine MonoR.step (Pv.eq (.int .u64 y)) [] (by kernel_rfl) (fun w' hw' => ?_) ?_
      · refine ask_do rfl fun K hK => ?_
        go_simp
        exact hK _ _ rfl rfl (World.grownBy.refl _ none)
      -- op 11 (slot 39): call
      refine MonoR.step (Pv.sl (encS encU) TT (colComsI p (matI p (xCube l n S) []) y)) [(8, 36), (9, 37), (10, 38)] (by kernel_rfl) (fun w' hw' => ?_) ?_
      · rintro _ rfl
        rintro _ rfl
        rintro _ rfl
        refine ask_do rfl fun K hK => ?_
        go_simp
        refine (HCOL.out w' hw').mono ?_
        rintro e w3 ⟨v3, rfl, h3, hg⟩
        exact hK _ _ rfl (h3.more (fun _ _ _ => trivial)) hg
      -- op 12 (slot 40): move
      refine MonoR.step (Pv.eq (.int .u64 x)) [] (by kernel_rfl) (fun w' hw' => ?_) ?_
      · refine ask_do rfl fun K hK => ?_
        go_simp
        exact hK _ _ rfl rfl (World.grownBy.refl _ none)
      -- op 13 (slot 41): call
      refine MonoR.step (Pv.sl (encU) TT (shareI p (colComsI p (matI p (xCube l n S) []) y) x)) [(7, 35), (11, 39), (12, 40)] (by kernel_rfl) (fun w' hw' => ?_) ?_
      · rintro _ rfl
        intro x39 h39
        have h39 : Sl (encS encU) TT w' x39 (colComsI p (matI p (xCube l n S) []) y) := h39
        rintro _ rfl
        refine ask_do rfl fun K hK => ?_
        obtain ⟨A39, c39, e39, _, _⟩ := h39.form
        subst e39
        go_simp
        refine (HSHC.out w' _ h39).mono ?_
        rintro e w3 ⟨v3, rfl, h3, hg⟩
        exact hK _ _ rfl (h3.more (fun _ _ _ => trivial)) hg
      -- op 14 (slot 42): call
      refine MonoR.step (Pv.eq (.bool true)) [(6, 34), (13, 41)] (by kernel_rfl) (fun w' hw' => ?_) ?_
      · intro x34 h34
        have h34 : Sl (encU) TT w' x34 (shareI p (rowComsI p (matI p (xCube l n S) []) x) y) := h34
        intro x41 h41
        have h41 : Sl (encU) TT w' x41 (shareI p (colComsI p (matI p (xCube l n S) []) y) x) := h41
        refine ask_do rfl fun K hK => ?_
        obtain ⟨A34, c34, e34, _, _⟩ := h34.form
        subst e34
        obtain ⟨A41, c41, e41, _, _⟩ := h41.form
        subst e41
        go_simp
        refine (HNUM.out w' _ _ h34 h41).mono ?_
        rintro e w3 ⟨rfl, m3, rfl⟩
        exact hK _ _ rfl rfl (grown_drewN' w' m3)
      -- op 15 (slot 8): assign
      refine MonoR.step (Pv.eq (.bool true)) [(14, 42)] (by kernel_rfl) (fun w' hw' => ?_) ?_
      · rintro _ rfl
        refine ask_do rfl fun K hK => ?_
        go_simp
        exact hK _ _ rfl rfl (World.grownBy.refl _ none)
      intro w4 hw4
      iterate 15 (intro _ _)
      rintro _ rfl
      have HE := Lib.hid (HG4.out.trans hw4)
      clear hw4
      refine wpList_nil ?_
      simp only [Act.put, List.setIfInBounds_toArray, List.set_cons_zero, List.set_cons_succ]
      go_wp2
      go_ret
      exact ⟨rfl, HE.out⟩
end Go.Proofs.YtmbbahlenanpfaaDoor
