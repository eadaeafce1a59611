/- consistorylaw08.PedersenRows: true for every input: the row's statement, and its tied card, out of the law's contract. -/
import Derived.Test.YtmbbahlenanpfaaDoorZ3
import Derived.ProofKit
import Derived.Test.YtmbbahlenanpfaaDoorCards
import Derived.Test.YtmbbahlenanpfaaDoorTie
import Derived.WalkKit
import Derived.OpenShut
import Derived.ChangeOld
import Derived.Below
import Derived.Deep.DeepHandedRow
import Derived.Lib.LaidTab
import Derived.Stop.LaidErr
namespace Go.Proofs.YtmbbahlenanpfaaDoor
open Go Go.RowKit

/-- Beyond base, and none of three arrays. -/
def Av3 (base : Nat) (a b c : Value) (g : Nat) : Prop := base ≤ g ∧ some g ≠ a.ownBlock ∧ some g ≠ b.ownBlock ∧ some g ≠ c.ownBlock
theorem Acc.beside' {α : Type} {E : Enc α} {base : Nat} {e : TypeId} {X Y : Nat → Prop} {w w' : World} {v u u' : Value} {xs : List α} (h : Acc E base e X w v xs) (hg : w.grownBy w' u.ownBlock) (hm : Moved w u u') (hX : ∀ g, g < w.heap.size → X g → some g ≠ u.ownBlock) (hY : ∀ g, g < w.heap.size → X g → some g ≠ u'.ownBlock → Y g) : Acc E base e Y w' v xs := by
  have h1 : Acc E base e (fun g => Y g ∧ some g ≠ u.ownBlock) w v xs := h.more fun g hg ha => ⟨hY g hg ha (fun e => hm.ne hg (fun e => hX g hg ha e.symm) e.symm), hX g hg ha⟩
  exact (h1.keep hg fun g hg => hg.2).more fun g _ hg => hg.1
theorem cube_sq {X : Nat → Prop} {w : World} {v : Value} {l : List Int} (h : Sl encU X w v l) (n S : Nat) (hn : n ≤ 3) (hS : S ≤ 10) : (xCube l n S).length = S ∧ ∀ F ∈ xCube l n S, Sq n F := by
  refine ⟨xCube_length _ _ _, fun F hF => ?_⟩
  simp only [xCube, List.mem_map, List.mem_range] at hF
  obtain ⟨s, hs, rfl⟩ := hF
  refine ⟨xSq_length _ _ _ _, fun r hr => ?_⟩
  simp only [xSq, List.mem_map, List.mem_range] at hr
  obtain ⟨i, hi, rfl⟩ := hr
  refine ⟨xRow_length _ _ _, fun y hy => ?_⟩
  simp only [xRow, List.mem_map, List.mem_range] at hy
  obtain ⟨j, hj, rfl⟩ := hy
  have h1 : n * n ≤ 3 * 3 := Nat.mul_le_mul hn hn
  have h2 : s * (n * n) ≤ 10 * 9 := Nat.mul_le_mul (by omega) h1
  have h3 : i * n ≤ 3 * 3 := Nat.mul_le_mul (by omega) hn
  exact (xAt_U64 h _ (by omega)).1
/-- What the four lists hold behind s rounds. -/
def RowsSt (p : Par) (f b : List (List (List Int))) (x : Int) (wb : World) (B s : Nat) (v1 v2 v3 v4 : Value) (wx : World) : Prop :=
  Acc (encS encU) wb.heap.size 25 (Av3 wb.heap.size v2 v3 v4) wx v1 ((f.take s).map fun F => rowI p.Q F x) ∧ Acc (encS encU) wb.heap.size 25 (Av3 wb.heap.size v1 v3 v4) wx v2 ((b.take s).map fun F => rowI p.Q F x) ∧
  Acc (encS encU) wb.heap.size 25 (Av3 wb.heap.size v1 v2 v4) wx v3 ((f.take s).map fun F => colV p.Q F x) ∧ Acc (encS encU) wb.heap.size 25 (Av3 wb.heap.size v1 v2 v3) wx v4 ((b.take s).map fun F => colV p.Q F x) ∧ wb.grownBy wx none ∧ Bk wx B 24 p.cells
set_option maxRecDepth 100000 in
set_option maxHeartbeats 4000000 in
theorem prows_any (p : Par) (v v' : Value) (l k : List Int) (x : Int) (w : World) (hp : p.ok) (h : Sl encU (fun _ => True) w v l) (h' : Sl encU (fun _ => True) w v' k) (hx : U64 x) (hT : TabsAt w) :
    Calls Tryd.prog 6 #[p.v, v, v', .int .u64 x] w fun e w' => e = .returned (.bool true) ∧ w.grownBy w' none := by
  have HPOK := Lib.hid hp
  have HL := Lib.hid h
  have HK := Lib.hid h'
  have HX := Lib.hid hx
  obtain ⟨A, c, rfl, hl1, hl2⟩ := h.form
  obtain ⟨A', c', rfl, hk1, hk2⟩ := h'.form
  have HB0 : Hid (Bk (w.alloc (Obj.cells p.cells 24)) w.heap.size 24 p.cells) := Lib.hid (Bk.new w _ _)
  have HG0 : Hid (w.grownBy (w.alloc (Obj.cells p.cells 24)) none) := Lib.hid (World.grownBy_alloc w _ none)
  have HM := Lib.hid (fun (w' : World) (hg : w.grownBy w' none) => may_any p w' hp (hT.kept hg))
  clear h h' hp hx hT
  cases hm : mayP p with
  | false =>
    rw [hm] at HM
    clear hm
    go_enter Tryd.func6, Tryd.ntmps6
    go_wp2_with fail
    refine (works08_any _).mono ?_
    rintro e w1 ⟨rfl, hg⟩
    have HG1 := hidTrans hg HG0
    have hp1 := (bkGrown hg HB0).out.prule
    clear hg
    go_wp2_with fail
    refine (HM.out _ HG1.out).mono ?_
    rintro e w2 ⟨rfl, hg⟩
    have HG2 := hidTrans hg HG1
    clear hg
    go_wp2_with fail
    refine (works08_any _).mono ?_
    rintro e w3 ⟨rfl, hg⟩
    have HG3 := hidTrans hg HG2
    clear hg
    go_wp2
    go_ret
    exact ⟨rfl, HG3.out⟩
  | true =>
    have HGd := Lib.hid (good_of hm)
    rw [hm] at HM
    clear hm
    by_cases hb : 1000 < wrap64 ((l.length : Int) + (k.length : Int))
    · have hb' : decide ((1000 : Int) < wrap64 ((l.length : Int) + (k.length : Int))) = true := by simpa using hb
      go_enter Tryd.func6, Tryd.ntmps6
      go_wp2_with fail
      refine (works08_any _).mono ?_
      rintro e w1 ⟨rfl, hg⟩
      have HG1 := hidTrans hg HG0
      have hp1 := (bkGrown hg HB0).out.prule
      clear hg
      go_wp2_with fail
      refine (HM.out _ HG1.out).mono ?_
      rintro e w2 ⟨rfl, hg⟩
      have HG2 := hidTrans hg HG1
      clear hg
      go_wp2_with fail
      refine (works08_any _).mono ?_
      rintro e w3 ⟨rfl, hg⟩
      have HG3 := hidTrans hg HG2
      clear hg
      go_wp2
      go_ret
      exact ⟨rfl, HG3.out⟩
    · have hb' : decide ((1000 : Int) < wrap64 ((l.length : Int) + (k.length : Int))) = false := by simpa using hb
      obtain ⟨S, hS⟩ : ∃ S : Nat, secretsI p = (S : Int) := ⟨(secretsI p).toNat, by have := secretsI_bd HGd.out; omega⟩
      obtain ⟨n, hn⟩ : ∃ n : Nat, p.T + 1 = (n : Int) := ⟨(p.T + 1).toNat, by have := HGd.out.T; omega⟩
      have hS9 : S ≤ 10 := by have := secretsI_bd HGd.out; omega
      have hS1 : 1 ≤ S := by have := secretsI_bd HGd.out; omega
      have hT0 : 0 ≤ p.T := by have := HGd.out.T; omega
      have hn1 : 0 < n := by omega
      have hn9 : n ≤ 3 := by have := HGd.out.T; omega
      have hx0 : 0 ≤ x := HX.out.1
      have HFS := Lib.hid (cube_sq HL.out n S hn9 hS9)
      have HBS := Lib.hid (cube_sq HK.out n S hn9 hS9)
      obtain ⟨f, hf⟩ : ∃ f, f = xCube l n S := ⟨_, rfl⟩
      obtain ⟨b, hbq⟩ : ∃ b, b = xCube k n S := ⟨_, rfl⟩
      have HTW0 : Hid (∀ w', w.grownBy w' none → Calls Tryd.prog 14 #[p.v, .slice A l.length c] w' (Gives (encS (encS encU)) (fun g => w'.heap.size ≤ g) w' f)) := Lib.hid (fun w' hw => by rw [hf]; exact two_any p _ l n S _ w' (HL.out.kept hw) hn hT0 (by omega) hS (by omega))
      have HTW1 : Hid (∀ w', w.grownBy w' none → Calls Tryd.prog 14 #[p.v, .slice A' k.length c'] w' (Gives (encS (encS encU)) (fun g => w'.heap.size ≤ g) w' b)) := Lib.hid (fun w' hw => by rw [hbq]; exact two_any p _ k n S _ w' (HK.out.kept hw) hn hT0 (by omega) hS (by omega))
      rw [← hf] at HFS
      rw [← hbq] at HBS
      clear hf hbq
      have hsm : ∀ {g : List (List (List Int))}, (g.length = S ∧ ∀ F ∈ g, Sq n F) → g.length ≤ 100000 ∧ ∀ a ∈ g, small2 a := fun hg => ⟨by have := hg.1; omega, fun a ha => ⟨by have := (hg.2 a ha).1; omega, fun r hr => by have := ((hg.2 a ha).2 r hr).1; omega⟩⟩
      have HMAT : Hid (∀ w' v1 v2, Sl (encS (encS encU)) TT w' v1 f → Sl (encS (encS encU)) TT w' v2 b → Calls Tryd.prog 16 #[p.v, v1, v2] w' (Gives (encS (encS encU)) (fun g => w'.heap.size ≤ g) w' (matI p f b))) := Lib.hid (fun w' v1 v2 h1 h2 => matrix_any p v1 v2 f b TT w' HPOK.out h1 h2 (hsm HFS.out).1 (hsm HBS.out).1 (hsm HFS.out).2 (hsm HBS.out).2)
      have HSQB := Lib.hid (square_coms HGd.out hn hS HFS.out HBS.out)
      have HRA := Lib.hid (rows_all HGd.out hn1 HFS.out HBS.out x hx0)
      have hms : (matI p f b).length ≤ 100000 ∧ ∀ M ∈ matI p f b, M.length ≤ 100000 ∧ ∀ r ∈ M, r.length ≤ 100000 := by
        refine ⟨by simp [matI, zipS, HFS.out.1, HBS.out.1]; omega, fun M hM => ?_⟩
        simp only [matI, zipS, List.map_map, HFS.out.1, HBS.out.1, Nat.max_self, List.mem_map, List.mem_range, Function.comp] at hM
        obtain ⟨s, hs, rfl⟩ := hM
        have e1 : f[s]? = some (f[s]'(by rw [HFS.out.1]; exact hs)) := List.getElem?_eq_getElem _
        have e2 : b[s]? = some (b[s]'(by rw [HBS.out.1]; exact hs)) := List.getElem?_eq_getElem _
        rw [e1, e2]
        have := coms_rect (p := p) (HFS.out.2 _ (List.getElem_mem (by rw [HFS.out.1]; exact hs))) (HBS.out.2 _ (List.getElem_mem (by rw [HBS.out.1]; exact hs)))
        exact ⟨by have := this.1; simp only [Option.getD_some]; omega, fun r hr => by have := this.2 r hr; omega⟩
      obtain ⟨m, hmm⟩ : ∃ m, m = matI p f b := ⟨_, rfl⟩
      rw [← hmm] at HMAT HSQB HRA hms
      clear hmm
      have HMS := Lib.hid hms
      have HSM := Lib.hid (hsm HFS.out)
      have HSMB := Lib.hid (hsm HBS.out)
      have HWF : Hid (∀ F ∈ f, wideI F = n) := Lib.hid (fun F hF => wide_sq hn1 (HFS.out.2 F hF))
      have HWB : Hid (∀ F ∈ b, wideI F = n) := Lib.hid (fun F hF => wide_sq hn1 (HBS.out.2 F hF))
      have HFL := Lib.hid HFS.out.1
      have HBL0 := Lib.hid HBS.out.1
      have HF2 : Hid (∀ F ∈ f, F.length = n) := Lib.hid (fun F hF => (HFS.out.2 F hF).1)
      have HB2' : Hid (∀ F ∈ b, F.length = n) := Lib.hid (fun F hF => (HBS.out.2 F hF).1)
      clear hms hsm HFS HBS hS hn hT0 hn1 hx0
      go_enter Tryd.func6, Tryd.ntmps6
      go_wp2_with fail
      refine (works08_any _).mono ?_
      rintro e w1 ⟨rfl, hg⟩
      have HG1 := hidTrans hg HG0
      have HB1 := bkGrown hg HB0
      have hp1 := HB1.out.prule
      clear hg
      go_wp2_with fail
      refine (HM.out _ HG1.out).mono ?_
      rintro e w2 ⟨rfl, hg⟩
      have HG2 := hidTrans hg HG1
      have HB3 : Hid (Bk w2.drew w.heap.size 24 p.cells) := Lib.hid ((bkGrown hg HB1).out.drewN 1)
      have HG3 : Hid (w.grownBy w2.drew none) := Lib.hid (grownBy_drewN HG2.out 1)
      clear hg hp1
      have HTWO : Hid (∀ w', w2.drew.grownBy w' none → Calls Tryd.prog 14 #[p.v, .slice A l.length c] w' (Gives (encS (encS encU)) (fun g => w'.heap.size ≤ g) w' f)) := Lib.hid (fun w' hw => HTW0.out w' (HG3.out.trans hw))
      have HTWOK : Hid (∀ w', w2.drew.grownBy w' none → Calls Tryd.prog 14 #[p.v, .slice A' k.length c'] w' (Gives (encS (encS encU)) (fun g => w'.heap.size ≤ g) w' b)) := Lib.hid (fun w' hw => HTW1.out w' (HG3.out.trans hw))
      clear HTW0 HTW1
      go_wp2_with fail
      refine wp_region_mono 8 (by kernel_rfl) (by kernel_rfl) ?_
      -- op 0 (slot 33): load
      refine MonoR.step (Pv.eq (p.v)) [] (by kernel_rfl) (fun w' hw' => ?_) ?_
      · refine ask_do rfl fun K hK => ?_
        have hp := (HB3.out.grown hw' (by simp)).prule
        go_simp
        exact hK _ _ rfl rfl (World.grownBy.refl _ none)
      -- op 1 (slot 34): move
      refine MonoR.step (Pv.eq (.slice A l.length c)) [] (by kernel_rfl) (fun w' hw' => ?_) ?_
      · refine ask_do rfl fun K hK => ?_
        go_simp
        exact hK _ _ rfl rfl (World.grownBy.refl _ none)
      -- op 2 (slot 35): call
      refine MonoR.step (Pv.sl (encS (encS encU)) TT (f)) [(0, 33), (1, 34)] (by kernel_rfl) (fun w' hw' => ?_) ?_
      · rintro _ rfl
        rintro _ rfl
        refine ask_do rfl fun K hK => ?_
        go_simp
        refine (HTWO.out w' hw').mono ?_
        rintro e w3 ⟨v3, rfl, h3, hg⟩
        exact hK _ _ rfl (h3.more (fun _ _ _ => trivial)) hg
      -- op 3 (slot 36): load
      refine MonoR.step (Pv.eq (p.v)) [] (by kernel_rfl) (fun w' hw' => ?_) ?_
      · refine ask_do rfl fun K hK => ?_
        have hp := (HB3.out.grown hw' (by simp)).prule
        go_simp
        exact hK _ _ rfl rfl (World.grownBy.refl _ none)
      -- op 4 (slot 37): move
      refine MonoR.step (Pv.eq (.slice A' k.length c')) [] (by kernel_rfl) (fun w' hw' => ?_) ?_
      · refine ask_do rfl fun K hK => ?_
        go_simp
        exact hK _ _ rfl rfl (World.grownBy.refl _ none)
      -- op 5 (slot 38): call
      refine MonoR.step (Pv.sl (encS (encS encU)) TT (b)) [(3, 36), (4, 37)] (by kernel_rfl) (fun w' hw' => ?_) ?_
      · rintro _ rfl
        rintro _ rfl
        refine ask_do rfl fun K hK => ?_
        go_simp
        refine (HTWOK.out w' hw').mono ?_
        rintro e w3 ⟨v3, rfl, h3, hg⟩
        exact hK _ _ rfl (h3.more (fun _ _ _ => trivial)) hg
      -- op 6 (slot 9): assign
      refine MonoR.step (Pv.sl (encS (encS encU)) TT (f)) [(2, 35)] (by kernel_rfl) (fun w' hw' => ?_) ?_
      · intro x35 h35
        have h35 : Sl (encS (encS encU)) TT w' x35 (f) := h35
        refine ask_do rfl fun K hK => ?_
        go_simp
        exact hK _ _ rfl h35 (World.grownBy.refl _ none)
      -- op 7 (slot 10): assign
      refine MonoR.step (Pv.sl (encS (encS encU)) TT (b)) [(5, 38)] (by kernel_rfl) (fun w' hw' => ?_) ?_
      · intro x38 h38
        have h38 : Sl (encS (encS encU)) TT w' x38 (b) := h38
        refine ask_do rfl fun K hK => ?_
        go_simp
        exact hK _ _ rfl h38 (World.grownBy.refl _ none)
      intro w3 hw3
      iterate 6 (intro _ _)
      intro v9 h9
      intro v10 h10
      have h9 : Sl (encS (encS encU)) TT w3 v9 f := h9
      have h10 : Sl (encS (encS encU)) TT w3 v10 b := h10
      have HB4 : Hid (Bk w3 w.heap.size 24 p.cells) := Lib.hid (HB3.out.grown hw3 (by simp))
      have HG4 : Hid (w.grownBy w3 none) := Lib.hid (HG3.out.trans hw3)
      obtain ⟨gF, oF, cF, _, e9, hgF, _⟩ := h9.at (k := 0) (by rw [HFL.out]; omega)
      obtain ⟨gB, oB, cB, _, e10, hgB, _⟩ := h10.at (k := 0) (by rw [HBL0.out]; omega)
      rw [HFL.out] at e9
      rw [HBL0.out] at e10
      subst e9 e10
      have hp4 := HB4.out.prule
      have HMC := Lib.hid (HMAT.out w3 _ _ h9 h10)
      have H9 := Lib.hid h9
      have H10 := Lib.hid h10
      have HGF := Lib.hid hgF
      have HGB := Lib.hid hgB
      clear hw3 h9 h10 hgF hgB HB3 HG3 HMAT
      refine wpList_nil ?_
      simp only [Act.put, List.setIfInBounds_toArray, List.set_cons_zero, List.set_cons_succ]
      go_wp2_with fail
      refine HMC.out.mono ?_
      rintro e wb ⟨v11, rfl, h11, hg4⟩
      obtain ⟨Am, cm, em, _, _⟩ := h11.form
      obtain ⟨nm, hnm⟩ : ∃ nm, nm = m.length := ⟨_, rfl⟩
      rw [← hnm] at em
      clear hnm
      subst em
      have HM11 := Lib.hid (h11.more (Y := TT) (fun _ _ _ => trivial))
      have HGW : Hid (w.grownBy wb none) := Lib.hid (HG4.out.trans hg4)
      have HSF := Lib.hid (H9.out.kept hg4)
      have HSB := Lib.hid (H10.out.kept hg4)
      have HGF2 : Hid (gF < wb.heap.size ∧ gB < wb.heap.size) := Lib.hid ⟨Nat.lt_of_lt_of_le HGF.out hg4.size, Nat.lt_of_lt_of_le HGB.out hg4.size⟩
      have HST : Hid (RowsSt p f b x wb w.heap.size 0 (.slice none 0 0) (.slice none 0 0) (.slice none 0 0) (.slice none 0 0) wb) := Lib.hid ⟨Acc.nil _ _ _ _ _, Acc.nil _ _ _ _ _, Acc.nil _ _ _ _ _, Acc.nil _ _ _ _ _, World.grownBy.refl wb none, HB4.out.grown hg4 (by simp)⟩
      clear h11 hg4 hp4 HMC HB4 HG4 H9 H10
      go_wp2_with fail
      go_loopg [12, 13, 14, 15, 16] S (fun g s12 s13 s14 s15 s16 wx => ∃ s : Nat, s + g = S ∧ s16 = .int .i64 s ∧ Hid (RowsSt p f b x wb w.heap.size s s12 s13 s14 s15 wx))
      case atStart => exact ⟨0, by omega, rfl, HST⟩
      case round =>
      obtain ⟨s, hs, rfl, HR⟩ := hrel
      cases gk with
      | zero =>
        obtain rfl : s = S := by omega
        obtain ⟨a1, a2, a3, a4, hgw, hbw⟩ := HR.out
        have HP5 : Hid (Bk wr.drew w.heap.size 24 p.cells) := Lib.hid (hbw.drewN 1)
        have HG5 : Hid (wb.grownBy wr.drew none) := Lib.hid (grownBy_drewN hgw 1)
        have HS1 : Hid (Sl (encS encU) TT wr.drew u12 (f.map fun F => rowI p.Q F x)) := Lib.hid (by have := a1.sl; rw [← HFL.out, List.take_length] at this; exact (this.more (fun _ _ _ => trivial)).kept (grown_drewN' wr 1))
        have HS2 : Hid (Sl (encS encU) TT wr.drew u13 (b.map fun F => rowI p.Q F x)) := Lib.hid (by have := a2.sl; rw [← HBL0.out, List.take_length] at this; exact (this.more (fun _ _ _ => trivial)).kept (grown_drewN' wr 1))
        have HS3 : Hid (Sl (encS encU) TT wr.drew u14 (f.map fun F => colV p.Q F x)) := Lib.hid (by have := a3.sl; rw [← HFL.out, List.take_length] at this; exact (this.more (fun _ _ _ => trivial)).kept (grown_drewN' wr 1))
        have HS4 : Hid (Sl (encS encU) TT wr.drew u15 (b.map fun F => colV p.Q F x)) := Lib.hid (by have := a4.sl; rw [← HBL0.out, List.take_length] at this; exact (this.more (fun _ _ _ => trivial)).kept (grown_drewN' wr 1))
        have HL1 : Hid ((f.map fun F => rowI p.Q F x).length ≤ 100000) := Lib.hid (by rw [List.length_map]; exact HSM.out.1)
        have HL2 : Hid ((b.map fun F => rowI p.Q F x).length ≤ 100000) := Lib.hid (by rw [List.length_map]; exact HSMB.out.1)
        have HL5 : Hid ((f.map fun F => colV p.Q F x).length ≤ 100000) := Lib.hid (by rw [List.length_map]; exact HSM.out.1)
        have HL6 : Hid ((b.map fun F => colV p.Q F x).length ≤ 100000) := Lib.hid (by rw [List.length_map]; exact HSMB.out.1)
        have HL3 : Hid (∀ q ∈ (f.map fun F => rowI p.Q F x), small1 q) := Lib.hid (fun q hq => by obtain ⟨F, hF, rfl⟩ := List.mem_map.1 hq; show (rowI p.Q F x).length ≤ 100000; simp only [rowI, List.length_map, List.length_range, HWF.out F hF]; omega)
        have HL4 : Hid (∀ q ∈ (b.map fun F => rowI p.Q F x), small1 q) := Lib.hid (fun q hq => by obtain ⟨F, hF, rfl⟩ := List.mem_map.1 hq; show (rowI p.Q F x).length ≤ 100000; simp only [rowI, List.length_map, List.length_range, HWB.out F hF]; omega)
        have HL7 : Hid (∀ q ∈ (f.map fun F => colV p.Q F x), small1 q) := Lib.hid (fun q hq => by obtain ⟨F, hF, rfl⟩ := List.mem_map.1 hq; show (colV p.Q F x).length ≤ 100000; simp only [colV, List.length_map, HF2.out F hF]; omega)
        have HL8 : Hid (∀ q ∈ (b.map fun F => colV p.Q F x), small1 q) := Lib.hid (fun q hq => by obtain ⟨F, hF, rfl⟩ := List.mem_map.1 hq; show (colV p.Q F x).length ≤ 100000; simp only [colV, List.length_map, HB2'.out F hF]; omega)
        have HSQ : Hid (∀ w', wb.grownBy w' none → Calls Tryd.prog 24 #[p.v, .slice Am nm cm] w' fun e w'' => e = .returned (.bool true) ∧ w'.grownBy w'' none) := Lib.hid (fun w' hw => (square_any p _ m TT w' HPOK.out (HM11.out.kept hw)).mono fun e w'' h => ⟨by rw [h.1, HSQB.out], h.2⟩)
        have HROW : Hid (∀ w', wb.grownBy w' none → Calls Tryd.prog 20 #[p.v, .slice Am nm cm, .int .u64 x] w' (Gives (encS encU) (fun g => w'.heap.size ≤ g) w' (rowComsI p m x))) := Lib.hid (fun w' hw => rowComs_any p _ m x TT w' (HM11.out.kept hw) HX.out HMS.out.1 HMS.out.2)
        have HCOL : Hid (∀ w', wb.grownBy w' none → Calls Tryd.prog 21 #[p.v, .slice Am nm cm, .int .u64 x] w' (Gives (encS encU) (fun g => w'.heap.size ≤ g) w' (colComsI p m x))) := Lib.hid (fun w' hw => colComs_any p _ m x TT w' (HM11.out.kept hw) HX.out HMS.out.1 (fun M hM => (HMS.out.2 M hM).1))
        have HLR : Hid (∀ w' z1 z2, Sl (encS encU) TT w' z1 (rowComsI p m x) → Sl (encS encU) TT w' z2 (comsI p (f.map fun F => rowI p.Q F x) (b.map fun F => rowI p.Q F x)) → Calls Tryd.prog 25 #[z1, z2] w' fun e w'' => e = .returned (.bool true) ∧ w'.grownBy w'' none) := Lib.hid (fun w' z1 z2 h1 h2 => by
          rw [HRA.out.1] at h1
          exact (lists_eq z1 z2 _ _ _ w' h1 h2).mono fun e w'' ⟨h1, n, h2⟩ => ⟨h1, by rw [h2]; exact grown_drewN' w' n⟩)
        have HLC : Hid (∀ w' z1 z2, Sl (encS encU) TT w' z1 (colComsI p m x) → Sl (encS encU) TT w' z2 (comsI p (f.map fun F => colV p.Q F x) (b.map fun F => colV p.Q F x)) → Calls Tryd.prog 25 #[z1, z2] w' fun e w'' => e = .returned (.bool true) ∧ w'.grownBy w'' none) := Lib.hid (fun w' z1 z2 h1 h2 => by
          rw [HRA.out.2] at h1
          exact (lists_eq z1 z2 _ _ _ w' h1 h2).mono fun e w'' ⟨h1, n, h2⟩ => ⟨h1, by rw [h2]; exact grown_drewN' w' n⟩)
        have HGE : Hid (w.grownBy wr.drew none) := Lib.hid (HGW.out.trans HG5.out)
        clear a1 a2 a3 a4 hgw hbw HR HST
        go_wp2_with fail
        refine wp_region_mono 26 (by kernel_rfl) (by kernel_rfl) ?_
        -- op 0 (slot 93): load
        refine MonoR.step (Pv.eq (p.v)) [] (by kernel_rfl) (fun w' hw' => ?_) ?_
        · refine ask_do rfl fun K hK => ?_
          have hp := (HP5.out.grown hw' (by simp)).prule
          go_simp
          exact hK _ _ rfl rfl (World.grownBy.refl _ none)
        -- op 1 (slot 94): move
        refine MonoR.step (Pv.eq (.slice Am nm cm)) [] (by kernel_rfl) (fun w' hw' => ?_) ?_
        · refine ask_do rfl fun K hK => ?_
          go_simp
          exact hK _ _ rfl rfl (World.grownBy.refl _ none)
        -- op 2 (slot 95): call
        refine MonoR.step (Pv.eq (.bool true)) [(0, 93), (1, 94)] (by kernel_rfl) (fun w' hw' => ?_) ?_
        · rintro _ rfl
          rintro _ rfl
          refine ask_do rfl fun K hK => ?_
          go_simp
          refine (HSQ.out w' (HG5.out.trans hw')).mono ?_
          rintro e w3 ⟨rfl, hg⟩
          exact hK _ _ rfl rfl hg
        -- op 3 (slot 96): move
        refine MonoR.step (Pv.eq (.bool true)) [(2, 95)] (by kernel_rfl) (fun w' hw' => ?_) ?_
        · rintro _ rfl
          refine ask_do rfl fun K hK => ?_
          go_simp
          exact hK _ _ rfl rfl (World.grownBy.refl _ none)
        -- op 4 (slot 97): load [(3, 'true')]
        refine MonoR.step (Pv.eq (p.v)) [(3, 96)] (by kernel_rfl) (fun w' hw' => ?_) ?_
        · rintro _ rfl
          refine ask_do rfl fun K hK => ?_
          have hp := (HP5.out.grown hw' (by simp)).prule
          go_simp
          exact hK _ _ rfl rfl (World.grownBy.refl _ none)
        -- op 5 (slot 98): move [(3, 'true')]
        refine MonoR.step (Pv.eq (.slice Am nm cm)) [(3, 96)] (by kernel_rfl) (fun w' hw' => ?_) ?_
        · rintro _ rfl
          refine ask_do rfl fun K hK => ?_
          go_simp
          exact hK _ _ rfl rfl (World.grownBy.refl _ none)
        -- op 6 (slot 99): move [(3, 'true')]
        refine MonoR.step (Pv.eq (.int .u64 x)) [(3, 96)] (by kernel_rfl) (fun w' hw' => ?_) ?_
        · rintro _ rfl
          refine ask_do rfl fun K hK => ?_
          go_simp
          exact hK _ _ rfl rfl (World.grownBy.refl _ none)
        -- op 7 (slot 100): call [(3, 'true')]
        refine MonoR.step (Pv.sl (encS encU) TT (rowComsI p m x)) [(3, 96), (4, 97), (5, 98), (6, 99)] (by kernel_rfl) (fun w' hw' => ?_) ?_
        · rintro _ rfl
          rintro _ rfl
          rintro _ rfl
          rintro _ rfl
          refine ask_do rfl fun K hK => ?_
          go_simp
          refine (HROW.out w' (HG5.out.trans hw')).mono ?_
          rintro e w3 ⟨v3, rfl, h3, hg⟩
          exact hK _ _ rfl (h3.more (fun _ _ _ => trivial)) hg
        -- op 8 (slot 101): load [(3, 'true')]
        refine MonoR.step (Pv.eq (p.v)) [(3, 96)] (by kernel_rfl) (fun w' hw' => ?_) ?_
        · rintro _ rfl
          refine ask_do rfl fun K hK => ?_
          have hp := (HP5.out.grown hw' (by simp)).prule
          go_simp
          exact hK _ _ rfl rfl (World.grownBy.refl _ none)
        -- op 9 (slot 102): move [(3, 'true')]
        refine MonoR.step (Pv.eq (u12)) [(3, 96)] (by kernel_rfl) (fun w' hw' => ?_) ?_
        · rintro _ rfl
          refine ask_do rfl fun K hK => ?_
          go_simp
          exact hK _ _ rfl rfl (World.grownBy.refl _ none)
        -- op 10 (slot 103): move [(3, 'true')]
        refine MonoR.step (Pv.eq (u13)) [(3, 96)] (by kernel_rfl) (fun w' hw' => ?_) ?_
        · rintro _ rfl
          refine ask_do rfl fun K hK => ?_
          go_simp
          exact hK _ _ rfl rfl (World.grownBy.refl _ none)
        -- op 11 (slot 104): call [(3, 'true')]
        refine MonoR.step (Pv.sl (encS encU) TT (comsI p (f.map fun F => rowI p.Q F x) (b.map fun F => rowI p.Q F x))) [(3, 96), (8, 101), (9, 102), (10, 103)] (by kernel_rfl) (fun w' hw' => ?_) ?_
        · rintro _ rfl
          rintro _ rfl
          rintro _ rfl
          rintro _ rfl
          refine ask_do rfl fun K hK => ?_
          go_simp
          refine (coms_any p _ _ _ _ TT w' HPOK.out (HS1.out.kept hw') (HS2.out.kept hw') HL1.out HL2.out HL3.out HL4.out).mono ?_
          rintro e w3 ⟨v3, rfl, h3, hg⟩
          exact hK _ _ rfl (h3.more (fun _ _ _ => trivial)) hg
        -- op 12 (slot 105): call [(3, 'true')]
        refine MonoR.step (Pv.eq (.bool true)) [(3, 96), (7, 100), (11, 104)] (by kernel_rfl) (fun w' hw' => ?_) ?_
        · rintro _ rfl
          intro x100 h100
          have h100 : Sl (encS encU) TT w' x100 (rowComsI p m x) := h100
          intro x104 h104
          have h104 : Sl (encS encU) TT w' x104 (comsI p (f.map fun F => rowI p.Q F x) (b.map fun F => rowI p.Q F x)) := h104
          refine ask_do rfl fun K hK => ?_
          obtain ⟨A100, c100, e100, _, _⟩ := h100.form
          subst e100
          obtain ⟨A104, c104, e104, _, _⟩ := h104.form
          subst e104
          go_simp
          refine (HLR.out w' _ _ h100 h104).mono ?_
          rintro e w3 ⟨rfl, hg⟩
          exact hK _ _ rfl rfl hg
        -- op 13 (slot 106): pick
        refine MonoR.step (Pv.eq (.bool true)) [(3, 96), (12, 105)] (by kernel_rfl) (fun w' hw' => ?_) ?_
        · rintro _ rfl
          rintro _ rfl
          refine ask_do rfl fun K hK => ?_
          go_simp
          exact hK _ _ rfl rfl (World.grownBy.refl _ none)
        -- op 14 (slot 107): move
        refine MonoR.step (Pv.eq (.bool true)) [(13, 106)] (by kernel_rfl) (fun w' hw' => ?_) ?_
        · rintro _ rfl
          refine ask_do rfl fun K hK => ?_
          go_simp
          exact hK _ _ rfl rfl (World.grownBy.refl _ none)
        -- op 15 (slot 108): load [(14, 'true')]
        refine MonoR.step (Pv.eq (p.v)) [(14, 107)] (by kernel_rfl) (fun w' hw' => ?_) ?_
        · rintro _ rfl
          refine ask_do rfl fun K hK => ?_
          have hp := (HP5.out.grown hw' (by simp)).prule
          go_simp
          exact hK _ _ rfl rfl (World.grownBy.refl _ none)
        -- op 16 (slot 109): move [(14, 'true')]
        refine MonoR.step (Pv.eq (.slice Am nm cm)) [(14, 107)] (by kernel_rfl) (fun w' hw' => ?_) ?_
        · rintro _ rfl
          refine ask_do rfl fun K hK => ?_
          go_simp
          exact hK _ _ rfl rfl (World.grownBy.refl _ none)
        -- op 17 (slot 110): move [(14, 'true')]
        refine MonoR.step (Pv.eq (.int .u64 x)) [(14, 107)] (by kernel_rfl) (fun w' hw' => ?_) ?_
        · rintro _ rfl
          refine ask_do rfl fun K hK => ?_
          go_simp
          exact hK _ _ rfl rfl (World.grownBy.refl _ none)
        -- op 18 (slot 111): call [(14, 'true')]
        refine MonoR.step (Pv.sl (encS encU) TT (colComsI p m x)) [(14, 107), (15, 108), (16, 109), (17, 110)] (by kernel_rfl) (fun w' hw' => ?_) ?_
        · rintro _ rfl
          rintro _ rfl
          rintro _ rfl
          rintro _ rfl
          refine ask_do rfl fun K hK => ?_
          go_simp
          refine (HCOL.out w' (HG5.out.trans hw')).mono ?_
          rintro e w3 ⟨v3, rfl, h3, hg⟩
          exact hK _ _ rfl (h3.more (fun _ _ _ => trivial)) hg
        -- op 19 (slot 112): load [(14, 'true')]
        refine MonoR.step (Pv.eq (p.v)) [(14, 107)] (by kernel_rfl) (fun w' hw' => ?_) ?_
        · rintro _ rfl
          refine ask_do rfl fun K hK => ?_
          have hp := (HP5.out.grown hw' (by simp)).prule
          go_simp
          exact hK _ _ rfl rfl (World.grownBy.refl _ none)
        -- op 20 (slot 113): move [(14, 'true')]
        refine MonoR.step (Pv.eq (u14)) [(14, 107)] (by kernel_rfl) (fun w' hw' => ?_) ?_
        · rintro _ rfl
          refine ask_do rfl fun K hK => ?_
          go_simp
          exact hK _ _ rfl rfl (World.grownBy.refl _ none)
        -- op 21 (slot 114): move [(14, 'true')]
        refine MonoR.step (Pv.eq (u15)) [(14, 107)] (by kernel_rfl) (fun w' hw' => ?_) ?_
        · rintro _ rfl
          refine ask_do rfl fun K hK => ?_
          go_simp
          exact hK _ _ rfl rfl (World.grownBy.refl _ none)
        -- op 22 (slot 115): call [(14, 'true')]
        refine MonoR.step (Pv.sl (encS encU) TT (comsI p (f.map fun F => colV p.Q F x) (b.map fun F => colV p.Q F x))) [(14, 107), (19, 112), (20, 113), (21, 114)] (by kernel_rfl) (fun w' hw' => ?_) ?_
        · rintro _ rfl
          rintro _ rfl
          rintro _ rfl
          rintro _ rfl
          refine ask_do rfl fun K hK => ?_
          go_simp
          refine (coms_any p _ _ _ _ TT w' HPOK.out (HS3.out.kept hw') (HS4.out.kept hw') HL5.out HL6.out HL7.out HL8.out).mono ?_
          rintro e w3 ⟨v3, rfl, h3, hg⟩
          exact hK _ _ rfl (h3.more (fun _ _ _ => trivial)) hg
        -- op 23 (slot 116): call [(14, 'true')]
        refine MonoR.step (Pv.eq (.bool true)) [(14, 107), (18, 111), (22, 115)] (by kernel_rfl) (fun w' hw' => ?_) ?_
        · rintro _ rfl
          intro x111 h111
          have h111 : Sl (encS encU) TT w' x111 (colComsI p m x) := h111
          intro x115 h115
          have h115 : Sl (encS encU) TT w' x115 (comsI p (f.map fun F => colV p.Q F x) (b.map fun F => colV p.Q F x)) := h115
          refine ask_do rfl fun K hK => ?_
          obtain ⟨A111, c111, e111, _, _⟩ := h111.form
          subst e111
          obtain ⟨A115, c115, e115, _, _⟩ := h115.form
          subst e115
          go_simp
          refine (HLC.out w' _ _ h111 h115).mono ?_
          rintro e w3 ⟨rfl, hg⟩
          exact hK _ _ rfl rfl hg
        -- op 24 (slot 117): pick
        refine MonoR.step (Pv.eq (.bool true)) [(14, 107), (23, 116)] (by kernel_rfl) (fun w' hw' => ?_) ?_
        · rintro _ rfl
          rintro _ rfl
          refine ask_do rfl fun K hK => ?_
          go_simp
          exact hK _ _ rfl rfl (World.grownBy.refl _ none)
        -- op 25 (slot 8): assign
        refine MonoR.step (Pv.eq (.bool true)) [(24, 117)] (by kernel_rfl) (fun w' hw' => ?_) ?_
        · rintro _ rfl
          refine ask_do rfl fun K hK => ?_
          go_simp
          exact hK _ _ rfl rfl (World.grownBy.refl _ none)
        intro w4 hw4
        iterate 25 (intro _ _)
        rintro _ rfl
        have HE := Lib.hid (HGE.out.trans hw4)
        clear hw4
        refine wpList_nil ?_
        simp only [Act.put, List.setIfInBounds_toArray, List.set_cons_zero, List.set_cons_succ]
        go_wp2
        go_ret
        exact ⟨rfl, HE.out⟩
      | succ mm =>
      have hsS : (s : Int) < (S : Int) := by omega
      have hs0 : (0 : Int) ≤ (s : Int) := by omega
      have hsN : s < S := by omega
      have hsF : s < f.length := by rw [HFL.out]; exact hsN
      have hsB : s < b.length := by rw [HBL0.out]; exact hsN
      obtain ⟨gF', oF', cF', uF, eF, _, _, hcF, hsuF⟩ := HSF.out.atS hsF
      injection eF with eF1 eF2 eF3
      injection eF1 with eF1
      injection eF1 with eF1 eF4
      subst eF1 eF4
      obtain ⟨gB', oB', cB', uB, eB, _, _, hcB, hsuB⟩ := HSB.out.atS hsB
      injection eB with eB1 eB2 eB3
      injection eB1 with eB1
      injection eB1 with eB1 eB4
      subst eB1 eB4
      obtain ⟨AF1, cF1, eF5, _, _⟩ := hsuF.form
      obtain ⟨AB1, cB1, eB5, _, _⟩ := hsuB.form
      have HSN1 := Lib.hid (map_take_snoc' (fun F => rowI p.Q F x) f s hsF)
      have HSN2 := Lib.hid (map_take_snoc' (fun F => rowI p.Q F x) b s hsB)
      have HSN3 := Lib.hid (map_take_snoc' (fun F => colV p.Q F x) f s hsF)
      have HSN4 := Lib.hid (map_take_snoc' (fun F => colV p.Q F x) b s hsB)
      have HBF := Lib.hid (HSM.out.2 _ (List.getElem_mem hsF))
      have HBB := Lib.hid (HSMB.out.2 _ (List.getElem_mem hsB))
      obtain ⟨LF, hLF⟩ : ∃ L, L = f[s] := ⟨_, rfl⟩
      obtain ⟨LB, hLB⟩ : ∃ L, L = b[s] := ⟨_, rfl⟩
      rw [← hLF] at HSN1 HSN3 hsuF eF5 HBF
      rw [← hLB] at HSN2 HSN4 hsuB eB5 HBB
      clear hLF hLB
      have HUF := Lib.hid hsuF
      have HUB := Lib.hid hsuB
      obtain ⟨nF1, hnF⟩ : ∃ q, q = LF.length := ⟨_, rfl⟩
      obtain ⟨nB1, hnB⟩ : ∃ q, q = LB.length := ⟨_, rfl⟩
      rw [← hnF] at eF5
      rw [← hnB] at eB5
      clear hsuF hsuB hnF hnB
      subst eF5 eB5
      have HCEF : Hid (∀ w', wb.grownBy w' none → w'.cell? ⟨gF, oF + s, none⟩ = some (.slice AF1 nF1 cF1)) := Lib.hid (fun w' hw => (World.cell?_of_block (w := wb) (hw.block gF HGF2.out.1 (by simp))).trans hcF)
      have HCEB : Hid (∀ w', wb.grownBy w' none → w'.cell? ⟨gB, oB + s, none⟩ = some (.slice AB1 nB1 cB1)) := Lib.hid (fun w' hw => (World.cell?_of_block (w := wb) (hw.block gB HGF2.out.2 (by simp))).trans hcB)
      have HRWF : Hid (∀ w', wb.grownBy w' none → Calls Tryd.prog 22 #[.slice AF1 nF1 cF1, .int .u64 x, .int .u64 p.Q] w' (Gives encU (fun g => w'.heap.size ≤ g) w' (rowI p.Q LF x))) := Lib.hid (fun w' hw => callsIn_wide.1 (row_in 6 (Nat.le_refl _) _ LF x p.Q TT w' (HUF.out.kept hw) HX.out HBF.out.1 HBF.out.2))
      have HRWB : Hid (∀ w', wb.grownBy w' none → Calls Tryd.prog 22 #[.slice AB1 nB1 cB1, .int .u64 x, .int .u64 p.Q] w' (Gives encU (fun g => w'.heap.size ≤ g) w' (rowI p.Q LB x))) := Lib.hid (fun w' hw => callsIn_wide.1 (row_in 6 (Nat.le_refl _) _ LB x p.Q TT w' (HUB.out.kept hw) HX.out HBB.out.1 HBB.out.2))
      have HCLF : Hid (∀ w', wb.grownBy w' none → Calls Tryd.prog 23 #[.slice AF1 nF1 cF1, .int .u64 x, .int .u64 p.Q] w' (Gives encU (fun g => w'.heap.size ≤ g) w' (colV p.Q LF x))) := Lib.hid (fun w' hw => col_any _ LF x p.Q TT w' (HUF.out.kept hw) HX.out HBF.out.1)
      have HCLB : Hid (∀ w', wb.grownBy w' none → Calls Tryd.prog 23 #[.slice AB1 nB1 cB1, .int .u64 x, .int .u64 p.Q] w' (Gives encU (fun g => w'.heap.size ≤ g) w' (colV p.Q LB x))) := Lib.hid (fun w' hw => col_any _ LB x p.Q TT w' (HUB.out.kept hw) HX.out HBB.out.1)
      have HA01 := Lib.hid (HR.out.1.kept (grown_drewN' wr 1))
      have HA02 := Lib.hid (HR.out.2.1.kept (grown_drewN' wr 1))
      have HA03 := Lib.hid (HR.out.2.2.1.kept (grown_drewN' wr 1))
      have HA04 := Lib.hid (HR.out.2.2.2.1.kept (grown_drewN' wr 1))
      have HG0' : Hid (wb.grownBy wr.drew none) := Lib.hid (grownBy_drewN HR.out.2.2.2.2.1 1)
      have HP0 : Hid (Bk wr.drew w.heap.size 24 p.cells) := Lib.hid (HR.out.2.2.2.2.2.drewN 1)
      clear HG0 eF2 eF3 eB2 eB3 hcF hcB HR HST HUF HUB HBF HBB
      have HG0 := HG0'
      clear HG0'
      go_wp2_with fail
      refine wp_region_mono 10 (by kernel_rfl) (by kernel_rfl) ?_
      -- op 0 (slot 49): move
      refine MonoR.step (Pv.eq (u12)) [] (by kernel_rfl) (fun w' hw' => ?_) ?_
      · refine ask_do rfl fun K hK => ?_
        go_simp
        exact hK _ _ rfl rfl (World.grownBy.refl _ none)
      -- op 1 (slot 50): move
      refine MonoR.step (Pv.eq (.slice (some ⟨gF, oF, none⟩) S cF)) [] (by kernel_rfl) (fun w' hw' => ?_) ?_
      · refine ask_do rfl fun K hK => ?_
        go_simp
        exact hK _ _ rfl rfl (World.grownBy.refl _ none)
      -- op 2 (slot 51): move
      refine MonoR.step (Pv.eq (.int .i64 (s : Int))) [] (by kernel_rfl) (fun w' hw' => ?_) ?_
      · refine ask_do rfl fun K hK => ?_
        go_simp
        exact hK _ _ rfl rfl (World.grownBy.refl _ none)
      -- op 3 (slot 52): indexAddr
      refine MonoR.step (Pv.eq (.pointer (some ⟨gF, oF + s, none⟩))) [(1, 50), (2, 51)] (by kernel_rfl) (fun w' hw' => ?_) ?_
      · rintro _ rfl
        rintro _ rfl
        refine ask_do rfl fun K hK => ?_
        go_simp
        exact hK _ _ rfl rfl (World.grownBy.refl _ none)
      -- op 4 (slot 53): load
      refine MonoR.step (Pv.eq (.slice AF1 nF1 cF1)) [(3, 52)] (by kernel_rfl) (fun w' hw' => ?_) ?_
      · rintro _ rfl
        refine ask_do rfl fun K hK => ?_
        have hp := (HP0.out.grown hw' (by simp)).prule
        have hce := HCEF.out w' (HG0.out.trans hw')
        go_simp
        exact hK _ _ rfl rfl (World.grownBy.refl _ none)
      -- op 5 (slot 54): move
      refine MonoR.step (Pv.eq (.int .u64 x)) [] (by kernel_rfl) (fun w' hw' => ?_) ?_
      · refine ask_do rfl fun K hK => ?_
        go_simp
        exact hK _ _ rfl rfl (World.grownBy.refl _ none)
      -- op 6 (slot 55): fieldAddr
      refine MonoR.step (Pv.eq (.pointer (some ⟨w.heap.size, 1, none⟩))) [] (by kernel_rfl) (fun w' hw' => ?_) ?_
      · refine ask_do rfl fun K hK => ?_
        go_simp
        exact hK _ _ rfl rfl (World.grownBy.refl _ none)
      -- op 7 (slot 56): load
      refine MonoR.step (Pv.eq (.int .u64 p.Q)) [(6, 55)] (by kernel_rfl) (fun w' hw' => ?_) ?_
      · rintro _ rfl
        refine ask_do rfl fun K hK => ?_
        have hp := (HP0.out.grown hw' (by simp)).prule
        have hce := HCEF.out w' (HG0.out.trans hw')
        go_simp
        exact hK _ _ rfl rfl (World.grownBy.refl _ none)
      -- op 8 (slot 57): call
      refine MonoR.step (Pv.sl (encU) (fun g => wr.drew.heap.size ≤ g) (rowI p.Q LF x)) [(4, 53), (5, 54), (7, 56)] (by kernel_rfl) (fun w' hw' => ?_) ?_
      · rintro _ rfl
        rintro _ rfl
        rintro _ rfl
        refine ask_do rfl fun K hK => ?_
        go_simp
        refine (HRWF.out w' (HG0.out.trans hw')).mono ?_
        rintro e w3 ⟨v3', rfl, h3, hg⟩
        exact hK _ _ rfl (h3.more (fun g _ h => Nat.le_trans hw'.size h)) hg
      -- op 9 (slot 58): buildSlice
      refine MonoR.step (Pv.sl (encS encU) (fun g => wr.drew.heap.size ≤ g) ([rowI p.Q LF x])) [(8, 57)] (by kernel_rfl) (fun w' hw' => ?_) ?_
      · intro x57 h57
        have h57 : Sl (encU) (fun g => wr.drew.heap.size ≤ g) w' x57 (rowI p.Q LF x) := h57
        refine ask_do rfl fun K hK => ?_
        obtain ⟨A57, c57, e57, _, _⟩ := h57.form
        subst e57
        go_simp
        exact hK _ _ rfl (Sl.one (fun g h => Nat.le_trans hw'.size h) ⟨_, rfl, h57⟩) (World.grownBy_alloc w' _ none)
      intro y0 hy0
      intro x49 h49
      obtain rfl : u12 = x49 := (show x49 = u12 from h49).symm
      iterate 8 (intro _ _)
      intro x58 h58
      have h58 : Sl (encS encU) (fun g => wr.drew.heap.size ≤ g) y0 x58 [rowI p.Q LF x] := h58
      obtain ⟨A58, c58, e58, _, _⟩ := h58.form
      have e58 : x58 = .slice A58 1 c58 := e58
      subst e58
      have HPx0 := Lib.hid (HP0.out.grown hy0 (by simp))
      have HGy0 := Lib.hid (HG0.out.trans hy0)
      have K01 := Lib.hid (HA01.out.kept hy0)
      have O01 : ∀ g, wr.drew.heap.size ≤ g → some g ≠ u12.ownBlock := fun g hg e => Nat.lt_irrefl _ (Nat.lt_of_lt_of_le (HA01.out.lt g e.symm).2 hg)
      have K02 := Lib.hid (HA02.out.kept hy0)
      have O02 : ∀ g, wr.drew.heap.size ≤ g → some g ≠ u13.ownBlock := fun g hg e => Nat.lt_irrefl _ (Nat.lt_of_lt_of_le (HA02.out.lt g e.symm).2 hg)
      have K03 := Lib.hid (HA03.out.kept hy0)
      have O03 : ∀ g, wr.drew.heap.size ≤ g → some g ≠ u14.ownBlock := fun g hg e => Nat.lt_irrefl _ (Nat.lt_of_lt_of_le (HA03.out.lt g e.symm).2 hg)
      have K04 := Lib.hid (HA04.out.kept hy0)
      have O04 : ∀ g, wr.drew.heap.size ≤ g → some g ≠ u15.ownBlock := fun g hg e => Nat.lt_irrefl _ (Nat.lt_of_lt_of_le (HA04.out.lt g e.symm).2 hg)
      have hb58 : wb.heap.size ≤ wr.drew.heap.size := HG0.out.size
      have hb59 : wr.drew.heap.size ≤ y0.heap.size := hy0.size
      have HLB : Hid ((((f.take s).map fun F => rowI p.Q F x).length + [rowI p.Q LF x].length) * 24 ≤ 140737488355328) := Lib.hid (by rw [List.length_map, List.length_take, List.length_singleton]; omega)
      have HZ : Hid (∀ cs y, (encS encU).rep (fun g => wr.drew.heap.size ≤ g) y0 cs y → (encS encU).rep (fun g => (Av3 wb.heap.size u13 u14 u15) g ∧ some g ≠ u12.ownBlock) y0 cs y) := Lib.hid (fun cs y hr => (encS encU).more hr fun g _ hz => ⟨⟨Nat.le_trans hb58 hz, O02 g hz, O03 g hz, O04 g hz⟩, O01 g hz⟩)
      have HN : Hid (∀ g, y0.heap.size ≤ g → (Av3 wb.heap.size u13 u14 u15) g) := Lib.hid (fun g hz => ⟨Nat.le_trans hb58 (Nat.le_trans hb59 hz), O02 g (Nat.le_trans hb59 hz), O03 g (Nat.le_trans hb59 hz), O04 g (Nat.le_trans hb59 hz)⟩)
      have HBL : Hid (wb.heap.size ≤ y0.heap.size) := Lib.hid (Nat.le_trans hb58 hb59)
      clear hy0 hb58 hb59 O01 O02 O03 O04 HA01 HA02 HA03 HA04 HP0 HG0
      simp only [Act.put, List.setIfInBounds_toArray, List.set_cons_zero, List.set_cons_succ]
      refine wpList_apps rfl (.tmp 49) (.tmp 58) rfl (E := encS encU) el_nums K01.out rfl rfl h58 HZ.out HLB.out HBL.out HN.out ?_
      intro v1n z0 hacc hg6 hm6
      have Q02 : Acc (encS encU) wb.heap.size 25 (Av3 wb.heap.size v1n u14 u15) z0 u13 ((b.take s).map fun F => rowI p.Q F x) := K02.out.beside' hg6 hm6 (fun g _ h => h.2.1) (fun g _ h k => ⟨h.1, k, h.2.2.1, h.2.2.2⟩)
      have Q03 : Acc (encS encU) wb.heap.size 25 (Av3 wb.heap.size v1n u13 u15) z0 u14 ((f.take s).map fun F => colV p.Q F x) := K03.out.beside' hg6 hm6 (fun g _ h => h.2.1) (fun g _ h k => ⟨h.1, k, h.2.2.1, h.2.2.2⟩)
      have Q04 : Acc (encS encU) wb.heap.size 25 (Av3 wb.heap.size v1n u13 u14) z0 u15 ((b.take s).map fun F => colV p.Q F x) := K04.out.beside' hg6 hm6 (fun g _ h => h.2.1) (fun g _ h k => ⟨h.1, k, h.2.2.1, h.2.2.2⟩)
      have hne0 : some w.heap.size ≠ u12.ownBlock := fun e => K01.out.ne_bk HPx0.out (by decide) e.symm
      have HP1 : Hid (Bk z0.drew w.heap.size 24 p.cells) := Lib.hid (show Bk z0 w.heap.size 24 p.cells from HPx0.out.grown hg6 hne0)
      have HG1 : Hid (wb.grownBy z0.drew none) := Lib.hid (grownBy_drewN (grown_up HGy0.out hg6 (fun g e => (K01.out.lt g e).1)) 1)
      have HA11 : Hid (Acc (encS encU) wb.heap.size 25 (Av3 wb.heap.size u13 u14 u15) z0.drew v1n ((f.take (s + 1)).map fun F => rowI p.Q F x)) := Lib.hid (by rw [HSN1.out]; exact hacc.kept (grown_drewN' z0 1))
      have HA12 := Lib.hid (Q02.kept (grown_drewN' z0 1))
      have HA13 := Lib.hid (Q03.kept (grown_drewN' z0 1))
      have HA14 := Lib.hid (Q04.kept (grown_drewN' z0 1))
      clear hacc hg6 hm6 hne0 HPx0 HGy0 HZ HN HBL HLB h58 K01 K02 K03 K04 Q02 Q03 Q04
      refine wpList_plain rfl fun K hK => ?_
      go_simp
      refine hK _ _ (wpList_nil ?_)
      clear hK K
      go_wp2_with fail
      refine wp_region_mono 10 (by kernel_rfl) (by kernel_rfl) ?_
      -- op 0 (slot 60): move
      refine MonoR.step (Pv.eq (u13)) [] (by kernel_rfl) (fun w' hw' => ?_) ?_
      · refine ask_do rfl fun K hK => ?_
        go_simp
        exact hK _ _ rfl rfl (World.grownBy.refl _ none)
      -- op 1 (slot 61): move
      refine MonoR.step (Pv.eq (.slice (some ⟨gB, oB, none⟩) S cB)) [] (by kernel_rfl) (fun w' hw' => ?_) ?_
      · refine ask_do rfl fun K hK => ?_
        go_simp
        exact hK _ _ rfl rfl (World.grownBy.refl _ none)
      -- op 2 (slot 62): move
      refine MonoR.step (Pv.eq (.int .i64 (s : Int))) [] (by kernel_rfl) (fun w' hw' => ?_) ?_
      · refine ask_do rfl fun K hK => ?_
        go_simp
        exact hK _ _ rfl rfl (World.grownBy.refl _ none)
      -- op 3 (slot 63): indexAddr
      refine MonoR.step (Pv.eq (.pointer (some ⟨gB, oB + s, none⟩))) [(1, 61), (2, 62)] (by kernel_rfl) (fun w' hw' => ?_) ?_
      · rintro _ rfl
        rintro _ rfl
        refine ask_do rfl fun K hK => ?_
        go_simp
        exact hK _ _ rfl rfl (World.grownBy.refl _ none)
      -- op 4 (slot 64): load
      refine MonoR.step (Pv.eq (.slice AB1 nB1 cB1)) [(3, 63)] (by kernel_rfl) (fun w' hw' => ?_) ?_
      · rintro _ rfl
        refine ask_do rfl fun K hK => ?_
        have hp := (HP1.out.grown hw' (by simp)).prule
        have hce := HCEB.out w' (HG1.out.trans hw')
        go_simp
        exact hK _ _ rfl rfl (World.grownBy.refl _ none)
      -- op 5 (slot 65): move
      refine MonoR.step (Pv.eq (.int .u64 x)) [] (by kernel_rfl) (fun w' hw' => ?_) ?_
      · refine ask_do rfl fun K hK => ?_
        go_simp
        exact hK _ _ rfl rfl (World.grownBy.refl _ none)
      -- op 6 (slot 66): fieldAddr
      refine MonoR.step (Pv.eq (.pointer (some ⟨w.heap.size, 1, none⟩))) [] (by kernel_rfl) (fun w' hw' => ?_) ?_
      · refine ask_do rfl fun K hK => ?_
        go_simp
        exact hK _ _ rfl rfl (World.grownBy.refl _ none)
      -- op 7 (slot 67): load
      refine MonoR.step (Pv.eq (.int .u64 p.Q)) [(6, 66)] (by kernel_rfl) (fun w' hw' => ?_) ?_
      · rintro _ rfl
        refine ask_do rfl fun K hK => ?_
        have hp := (HP1.out.grown hw' (by simp)).prule
        have hce := HCEB.out w' (HG1.out.trans hw')
        go_simp
        exact hK _ _ rfl rfl (World.grownBy.refl _ none)
      -- op 8 (slot 68): call
      refine MonoR.step (Pv.sl (encU) (fun g => z0.drew.heap.size ≤ g) (rowI p.Q LB x)) [(4, 64), (5, 65), (7, 67)] (by kernel_rfl) (fun w' hw' => ?_) ?_
      · rintro _ rfl
        rintro _ rfl
        rintro _ rfl
        refine ask_do rfl fun K hK => ?_
        go_simp
        refine (HRWB.out w' (HG1.out.trans hw')).mono ?_
        rintro e w3 ⟨v3', rfl, h3, hg⟩
        exact hK _ _ rfl (h3.more (fun g _ h => Nat.le_trans hw'.size h)) hg
      -- op 9 (slot 69): buildSlice
      refine MonoR.step (Pv.sl (encS encU) (fun g => z0.drew.heap.size ≤ g) ([rowI p.Q LB x])) [(8, 68)] (by kernel_rfl) (fun w' hw' => ?_) ?_
      · intro x68 h68
        have h68 : Sl (encU) (fun g => z0.drew.heap.size ≤ g) w' x68 (rowI p.Q LB x) := h68
        refine ask_do rfl fun K hK => ?_
        obtain ⟨A68, c68, e68, _, _⟩ := h68.form
        subst e68
        go_simp
        exact hK _ _ rfl (Sl.one (fun g h => Nat.le_trans hw'.size h) ⟨_, rfl, h68⟩) (World.grownBy_alloc w' _ none)
      intro y1 hy1
      intro x49 h49
      obtain rfl : u13 = x49 := (show x49 = u13 from h49).symm
      iterate 8 (intro _ _)
      intro x58 h58
      have h58 : Sl (encS encU) (fun g => z0.drew.heap.size ≤ g) y1 x58 [rowI p.Q LB x] := h58
      obtain ⟨A58, c58, e58, _, _⟩ := h58.form
      have e58 : x58 = .slice A58 1 c58 := e58
      subst e58
      have HPx1 := Lib.hid (HP1.out.grown hy1 (by simp))
      have HGy1 := Lib.hid (HG1.out.trans hy1)
      have K11 := Lib.hid (HA11.out.kept hy1)
      have O11 : ∀ g, z0.drew.heap.size ≤ g → some g ≠ v1n.ownBlock := fun g hg e => Nat.lt_irrefl _ (Nat.lt_of_lt_of_le (HA11.out.lt g e.symm).2 hg)
      have K12 := Lib.hid (HA12.out.kept hy1)
      have O12 : ∀ g, z0.drew.heap.size ≤ g → some g ≠ u13.ownBlock := fun g hg e => Nat.lt_irrefl _ (Nat.lt_of_lt_of_le (HA12.out.lt g e.symm).2 hg)
      have K13 := Lib.hid (HA13.out.kept hy1)
      have O13 : ∀ g, z0.drew.heap.size ≤ g → some g ≠ u14.ownBlock := fun g hg e => Nat.lt_irrefl _ (Nat.lt_of_lt_of_le (HA13.out.lt g e.symm).2 hg)
      have K14 := Lib.hid (HA14.out.kept hy1)
      have O14 : ∀ g, z0.drew.heap.size ≤ g → some g ≠ u15.ownBlock := fun g hg e => Nat.lt_irrefl _ (Nat.lt_of_lt_of_le (HA14.out.lt g e.symm).2 hg)
      have hb58 : wb.heap.size ≤ z0.drew.heap.size := HG1.out.size
      have hb59 : z0.drew.heap.size ≤ y1.heap.size := hy1.size
      have HLB : Hid ((((b.take s).map fun F => rowI p.Q F x).length + [rowI p.Q LB x].length) * 24 ≤ 140737488355328) := Lib.hid (by rw [List.length_map, List.length_take, List.length_singleton]; omega)
      have HZ : Hid (∀ cs y, (encS encU).rep (fun g => z0.drew.heap.size ≤ g) y1 cs y → (encS encU).rep (fun g => (Av3 wb.heap.size v1n u14 u15) g ∧ some g ≠ u13.ownBlock) y1 cs y) := Lib.hid (fun cs y hr => (encS encU).more hr fun g _ hz => ⟨⟨Nat.le_trans hb58 hz, O11 g hz, O13 g hz, O14 g hz⟩, O12 g hz⟩)
      have HN : Hid (∀ g, y1.heap.size ≤ g → (Av3 wb.heap.size v1n u14 u15) g) := Lib.hid (fun g hz => ⟨Nat.le_trans hb58 (Nat.le_trans hb59 hz), O11 g (Nat.le_trans hb59 hz), O13 g (Nat.le_trans hb59 hz), O14 g (Nat.le_trans hb59 hz)⟩)
      have HBL : Hid (wb.heap.size ≤ y1.heap.size) := Lib.hid (Nat.le_trans hb58 hb59)
      clear hy1 hb58 hb59 O11 O12 O13 O14 HA11 HA12 HA13 HA14 HP1 HG1
      simp only [Act.put, List.setIfInBounds_toArray, List.set_cons_zero, List.set_cons_succ]
      refine wpList_apps rfl (.tmp 60) (.tmp 69) rfl (E := encS encU) el_nums K12.out rfl rfl h58 HZ.out HLB.out HBL.out HN.out ?_
      intro v2n z1 hacc hg6 hm6
      have Q11 : Acc (encS encU) wb.heap.size 25 (Av3 wb.heap.size v2n u14 u15) z1 v1n ((f.take (s + 1)).map fun F => rowI p.Q F x) := K11.out.beside' hg6 hm6 (fun g _ h => h.2.1) (fun g _ h k => ⟨h.1, k, h.2.2.1, h.2.2.2⟩)
      have Q13 : Acc (encS encU) wb.heap.size 25 (Av3 wb.heap.size v1n v2n u15) z1 u14 ((f.take s).map fun F => colV p.Q F x) := K13.out.beside' hg6 hm6 (fun g _ h => h.2.2.1) (fun g _ h k => ⟨h.1, h.2.1, k, h.2.2.2⟩)
      have Q14 : Acc (encS encU) wb.heap.size 25 (Av3 wb.heap.size v1n v2n u14) z1 u15 ((b.take s).map fun F => colV p.Q F x) := K14.out.beside' hg6 hm6 (fun g _ h => h.2.2.1) (fun g _ h k => ⟨h.1, h.2.1, k, h.2.2.2⟩)
      have hne1 : some w.heap.size ≠ u13.ownBlock := fun e => K12.out.ne_bk HPx1.out (by decide) e.symm
      have HP2 : Hid (Bk z1.drew w.heap.size 24 p.cells) := Lib.hid (show Bk z1 w.heap.size 24 p.cells from HPx1.out.grown hg6 hne1)
      have HG2 : Hid (wb.grownBy z1.drew none) := Lib.hid (grownBy_drewN (grown_up HGy1.out hg6 (fun g e => (K12.out.lt g e).1)) 1)
      have HA22 : Hid (Acc (encS encU) wb.heap.size 25 (Av3 wb.heap.size v1n u14 u15) z1.drew v2n ((b.take (s + 1)).map fun F => rowI p.Q F x)) := Lib.hid (by rw [HSN2.out]; exact hacc.kept (grown_drewN' z1 1))
      have HA21 := Lib.hid (Q11.kept (grown_drewN' z1 1))
      have HA23 := Lib.hid (Q13.kept (grown_drewN' z1 1))
      have HA24 := Lib.hid (Q14.kept (grown_drewN' z1 1))
      clear hacc hg6 hm6 hne1 HPx1 HGy1 HZ HN HBL HLB h58 K11 K12 K13 K14 Q11 Q13 Q14
      refine wpList_plain rfl fun K hK => ?_
      go_simp
      refine hK _ _ (wpList_nil ?_)
      clear hK K
      go_wp2_with fail
      refine wp_region_mono 10 (by kernel_rfl) (by kernel_rfl) ?_
      -- op 0 (slot 71): move
      refine MonoR.step (Pv.eq (u14)) [] (by kernel_rfl) (fun w' hw' => ?_) ?_
      · refine ask_do rfl fun K hK => ?_
        go_simp
        exact hK _ _ rfl rfl (World.grownBy.refl _ none)
      -- op 1 (slot 72): move
      refine MonoR.step (Pv.eq (.slice (some ⟨gF, oF, none⟩) S cF)) [] (by kernel_rfl) (fun w' hw' => ?_) ?_
      · refine ask_do rfl fun K hK => ?_
        go_simp
        exact hK _ _ rfl rfl (World.grownBy.refl _ none)
      -- op 2 (slot 73): move
      refine MonoR.step (Pv.eq (.int .i64 (s : Int))) [] (by kernel_rfl) (fun w' hw' => ?_) ?_
      · refine ask_do rfl fun K hK => ?_
        go_simp
        exact hK _ _ rfl rfl (World.grownBy.refl _ none)
      -- op 3 (slot 74): indexAddr
      refine MonoR.step (Pv.eq (.pointer (some ⟨gF, oF + s, none⟩))) [(1, 72), (2, 73)] (by kernel_rfl) (fun w' hw' => ?_) ?_
      · rintro _ rfl
        rintro _ rfl
        refine ask_do rfl fun K hK => ?_
        go_simp
        exact hK _ _ rfl rfl (World.grownBy.refl _ none)
      -- op 4 (slot 75): load
      refine MonoR.step (Pv.eq (.slice AF1 nF1 cF1)) [(3, 74)] (by kernel_rfl) (fun w' hw' => ?_) ?_
      · rintro _ rfl
        refine ask_do rfl fun K hK => ?_
        have hp := (HP2.out.grown hw' (by simp)).prule
        have hce := HCEF.out w' (HG2.out.trans hw')
        go_simp
        exact hK _ _ rfl rfl (World.grownBy.refl _ none)
      -- op 5 (slot 76): move
      refine MonoR.step (Pv.eq (.int .u64 x)) [] (by kernel_rfl) (fun w' hw' => ?_) ?_
      · refine ask_do rfl fun K hK => ?_
        go_simp
        exact hK _ _ rfl rfl (World.grownBy.refl _ none)
      -- op 6 (slot 77): fieldAddr
      refine MonoR.step (Pv.eq (.pointer (some ⟨w.heap.size, 1, none⟩))) [] (by kernel_rfl) (fun w' hw' => ?_) ?_
      · refine ask_do rfl fun K hK => ?_
        go_simp
        exact hK _ _ rfl rfl (World.grownBy.refl _ none)
      -- op 7 (slot 78): load
      refine MonoR.step (Pv.eq (.int .u64 p.Q)) [(6, 77)] (by kernel_rfl) (fun w' hw' => ?_) ?_
      · rintro _ rfl
        refine ask_do rfl fun K hK => ?_
        have hp := (HP2.out.grown hw' (by simp)).prule
        have hce := HCEF.out w' (HG2.out.trans hw')
        go_simp
        exact hK _ _ rfl rfl (World.grownBy.refl _ none)
      -- op 8 (slot 79): call
      refine MonoR.step (Pv.sl (encU) (fun g => z1.drew.heap.size ≤ g) (colV p.Q LF x)) [(4, 75), (5, 76), (7, 78)] (by kernel_rfl) (fun w' hw' => ?_) ?_
      · rintro _ rfl
        rintro _ rfl
        rintro _ rfl
        refine ask_do rfl fun K hK => ?_
        go_simp
        refine (HCLF.out w' (HG2.out.trans hw')).mono ?_
        rintro e w3 ⟨v3', rfl, h3, hg⟩
        exact hK _ _ rfl (h3.more (fun g _ h => Nat.le_trans hw'.size h)) hg
      -- op 9 (slot 80): buildSlice
      refine MonoR.step (Pv.sl (encS encU) (fun g => z1.drew.heap.size ≤ g) ([colV p.Q LF x])) [(8, 79)] (by kernel_rfl) (fun w' hw' => ?_) ?_
      · intro x79 h79
        have h79 : Sl (encU) (fun g => z1.drew.heap.size ≤ g) w' x79 (colV p.Q LF x) := h79
        refine ask_do rfl fun K hK => ?_
        obtain ⟨A79, c79, e79, _, _⟩ := h79.form
        subst e79
        go_simp
        exact hK _ _ rfl (Sl.one (fun g h => Nat.le_trans hw'.size h) ⟨_, rfl, h79⟩) (World.grownBy_alloc w' _ none)
      intro y2 hy2
      intro x49 h49
      obtain rfl : u14 = x49 := (show x49 = u14 from h49).symm
      iterate 8 (intro _ _)
      intro x58 h58
      have h58 : Sl (encS encU) (fun g => z1.drew.heap.size ≤ g) y2 x58 [colV p.Q LF x] := h58
      obtain ⟨A58, c58, e58, _, _⟩ := h58.form
      have e58 : x58 = .slice A58 1 c58 := e58
      subst e58
      have HPx2 := Lib.hid (HP2.out.grown hy2 (by simp))
      have HGy2 := Lib.hid (HG2.out.trans hy2)
      have K21 := Lib.hid (HA21.out.kept hy2)
      have O21 : ∀ g, z1.drew.heap.size ≤ g → some g ≠ v1n.ownBlock := fun g hg e => Nat.lt_irrefl _ (Nat.lt_of_lt_of_le (HA21.out.lt g e.symm).2 hg)
      have K22 := Lib.hid (HA22.out.kept hy2)
      have O22 : ∀ g, z1.drew.heap.size ≤ g → some g ≠ v2n.ownBlock := fun g hg e => Nat.lt_irrefl _ (Nat.lt_of_lt_of_le (HA22.out.lt g e.symm).2 hg)
      have K23 := Lib.hid (HA23.out.kept hy2)
      have O23 : ∀ g, z1.drew.heap.size ≤ g → some g ≠ u14.ownBlock := fun g hg e => Nat.lt_irrefl _ (Nat.lt_of_lt_of_le (HA23.out.lt g e.symm).2 hg)
      have K24 := Lib.hid (HA24.out.kept hy2)
      have O24 : ∀ g, z1.drew.heap.size ≤ g → some g ≠ u15.ownBlock := fun g hg e => Nat.lt_irrefl _ (Nat.lt_of_lt_of_le (HA24.out.lt g e.symm).2 hg)
      have hb58 : wb.heap.size ≤ z1.drew.heap.size := HG2.out.size
      have hb59 : z1.drew.heap.size ≤ y2.heap.size := hy2.size
      have HLB : Hid ((((f.take s).map fun F => colV p.Q F x).length + [colV p.Q LF x].length) * 24 ≤ 140737488355328) := Lib.hid (by rw [List.length_map, List.length_take, List.length_singleton]; omega)
      have HZ : Hid (∀ cs y, (encS encU).rep (fun g => z1.drew.heap.size ≤ g) y2 cs y → (encS encU).rep (fun g => (Av3 wb.heap.size v1n v2n u15) g ∧ some g ≠ u14.ownBlock) y2 cs y) := Lib.hid (fun cs y hr => (encS encU).more hr fun g _ hz => ⟨⟨Nat.le_trans hb58 hz, O21 g hz, O22 g hz, O24 g hz⟩, O23 g hz⟩)
      have HN : Hid (∀ g, y2.heap.size ≤ g → (Av3 wb.heap.size v1n v2n u15) g) := Lib.hid (fun g hz => ⟨Nat.le_trans hb58 (Nat.le_trans hb59 hz), O21 g (Nat.le_trans hb59 hz), O22 g (Nat.le_trans hb59 hz), O24 g (Nat.le_trans hb59 hz)⟩)
      have HBL : Hid (wb.heap.size ≤ y2.heap.size) := Lib.hid (Nat.le_trans hb58 hb59)
      clear hy2 hb58 hb59 O21 O22 O23 O24 HA21 HA22 HA23 HA24 HP2 HG2
      simp only [Act.put, List.setIfInBounds_toArray, List.set_cons_zero, List.set_cons_succ]
      refine wpList_apps rfl (.tmp 71) (.tmp 80) rfl (E := encS encU) el_nums K23.out rfl rfl h58 HZ.out HLB.out HBL.out HN.out ?_
      intro v3n z2 hacc hg6 hm6
      have Q21 : Acc (encS encU) wb.heap.size 25 (Av3 wb.heap.size v2n v3n u15) z2 v1n ((f.take (s + 1)).map fun F => rowI p.Q F x) := K21.out.beside' hg6 hm6 (fun g _ h => h.2.2.1) (fun g _ h k => ⟨h.1, h.2.1, k, h.2.2.2⟩)
      have Q22 : Acc (encS encU) wb.heap.size 25 (Av3 wb.heap.size v1n v3n u15) z2 v2n ((b.take (s + 1)).map fun F => rowI p.Q F x) := K22.out.beside' hg6 hm6 (fun g _ h => h.2.2.1) (fun g _ h k => ⟨h.1, h.2.1, k, h.2.2.2⟩)
      have Q24 : Acc (encS encU) wb.heap.size 25 (Av3 wb.heap.size v1n v2n v3n) z2 u15 ((b.take s).map fun F => colV p.Q F x) := K24.out.beside' hg6 hm6 (fun g _ h => h.2.2.2) (fun g _ h k => ⟨h.1, h.2.1, h.2.2.1, k⟩)
      have hne2 : some w.heap.size ≠ u14.ownBlock := fun e => K23.out.ne_bk HPx2.out (by decide) e.symm
      have HP3 : Hid (Bk z2.drew w.heap.size 24 p.cells) := Lib.hid (show Bk z2 w.heap.size 24 p.cells from HPx2.out.grown hg6 hne2)
      have HG3 : Hid (wb.grownBy z2.drew none) := Lib.hid (grownBy_drewN (grown_up HGy2.out hg6 (fun g e => (K23.out.lt g e).1)) 1)
      have HA33 : Hid (Acc (encS encU) wb.heap.size 25 (Av3 wb.heap.size v1n v2n u15) z2.drew v3n ((f.take (s + 1)).map fun F => colV p.Q F x)) := Lib.hid (by rw [HSN3.out]; exact hacc.kept (grown_drewN' z2 1))
      have HA31 := Lib.hid (Q21.kept (grown_drewN' z2 1))
      have HA32 := Lib.hid (Q22.kept (grown_drewN' z2 1))
      have HA34 := Lib.hid (Q24.kept (grown_drewN' z2 1))
      clear hacc hg6 hm6 hne2 HPx2 HGy2 HZ HN HBL HLB h58 K21 K22 K23 K24 Q21 Q22 Q24
      refine wpList_plain rfl fun K hK => ?_
      go_simp
      refine hK _ _ (wpList_nil ?_)
      clear hK K
      go_wp2_with fail
      refine wp_region_mono 10 (by kernel_rfl) (by kernel_rfl) ?_
      -- op 0 (slot 82): move
      refine MonoR.step (Pv.eq (u15)) [] (by kernel_rfl) (fun w' hw' => ?_) ?_
      · refine ask_do rfl fun K hK => ?_
        go_simp
        exact hK _ _ rfl rfl (World.grownBy.refl _ none)
      -- op 1 (slot 83): move
      refine MonoR.step (Pv.eq (.slice (some ⟨gB, oB, none⟩) S cB)) [] (by kernel_rfl) (fun w' hw' => ?_) ?_
      · refine ask_do rfl fun K hK => ?_
        go_simp
        exact hK _ _ rfl rfl (World.grownBy.refl _ none)
      -- op 2 (slot 84): move
      refine MonoR.step (Pv.eq (.int .i64 (s : Int))) [] (by kernel_rfl) (fun w' hw' => ?_) ?_
      · refine ask_do rfl fun K hK => ?_
        go_simp
        exact hK _ _ rfl rfl (World.grownBy.refl _ none)
      -- op 3 (slot 85): indexAddr
      refine MonoR.step (Pv.eq (.pointer (some ⟨gB, oB + s, none⟩))) [(1, 83), (2, 84)] (by kernel_rfl) (fun w' hw' => ?_) ?_
      · rintro _ rfl
        rintro _ rfl
        refine ask_do rfl fun K hK => ?_
        go_simp
        exact hK _ _ rfl rfl (World.grownBy.refl _ none)
      -- op 4 (slot 86): load
      refine MonoR.step (Pv.eq (.slice AB1 nB1 cB1)) [(3, 85)] (by kernel_rfl) (fun w' hw' => ?_) ?_
      · rintro _ rfl
        refine ask_do rfl fun K hK => ?_
        have hp := (HP3.out.grown hw' (by simp)).prule
        have hce := HCEB.out w' (HG3.out.trans hw')
        go_simp
        exact hK _ _ rfl rfl (World.grownBy.refl _ none)
      -- op 5 (slot 87): move
      refine MonoR.step (Pv.eq (.int .u64 x)) [] (by kernel_rfl) (fun w' hw' => ?_) ?_
      · refine ask_do rfl fun K hK => ?_
        go_simp
        exact hK _ _ rfl rfl (World.grownBy.refl _ none)
      -- op 6 (slot 88): fieldAddr
      refine MonoR.step (Pv.eq (.pointer (some ⟨w.heap.size, 1, none⟩))) [] (by kernel_rfl) (fun w' hw' => ?_) ?_
      · refine ask_do rfl fun K hK => ?_
        go_simp
        exact hK _ _ rfl rfl (World.grownBy.refl _ none)
      -- op 7 (slot 89): load
      refine MonoR.step (Pv.eq (.int .u64 p.Q)) [(6, 88)] (by kernel_rfl) (fun w' hw' => ?_) ?_
      · rintro _ rfl
        refine ask_do rfl fun K hK => ?_
        have hp := (HP3.out.grown hw' (by simp)).prule
        have hce := HCEB.out w' (HG3.out.trans hw')
        go_simp
        exact hK _ _ rfl rfl (World.grownBy.refl _ none)
      -- op 8 (slot 90): call
      refine MonoR.step (Pv.sl (encU) (fun g => z2.drew.heap.size ≤ g) (colV p.Q LB x)) [(4, 86), (5, 87), (7, 89)] (by kernel_rfl) (fun w' hw' => ?_) ?_
      · rintro _ rfl
        rintro _ rfl
        rintro _ rfl
        refine ask_do rfl fun K hK => ?_
        go_simp
        refine (HCLB.out w' (HG3.out.trans hw')).mono ?_
        rintro e w3 ⟨v3', rfl, h3, hg⟩
        exact hK _ _ rfl (h3.more (fun g _ h => Nat.le_trans hw'.size h)) hg
      -- op 9 (slot 91): buildSlice
      refine MonoR.step (Pv.sl (encS encU) (fun g => z2.drew.heap.size ≤ g) ([colV p.Q LB x])) [(8, 90)] (by kernel_rfl) (fun w' hw' => ?_) ?_
      · intro x90 h90
        have h90 : Sl (encU) (fun g => z2.drew.heap.size ≤ g) w' x90 (colV p.Q LB x) := h90
        refine ask_do rfl fun K hK => ?_
        obtain ⟨A90, c90, e90, _, _⟩ := h90.form
        subst e90
        go_simp
        exact hK _ _ rfl (Sl.one (fun g h => Nat.le_trans hw'.size h) ⟨_, rfl, h90⟩) (World.grownBy_alloc w' _ none)
      intro y3 hy3
      intro x49 h49
      obtain rfl : u15 = x49 := (show x49 = u15 from h49).symm
      iterate 8 (intro _ _)
      intro x58 h58
      have h58 : Sl (encS encU) (fun g => z2.drew.heap.size ≤ g) y3 x58 [colV p.Q LB x] := h58
      obtain ⟨A58, c58, e58, _, _⟩ := h58.form
      have e58 : x58 = .slice A58 1 c58 := e58
      subst e58
      have HPx3 := Lib.hid (HP3.out.grown hy3 (by simp))
      have HGy3 := Lib.hid (HG3.out.trans hy3)
      have K31 := Lib.hid (HA31.out.kept hy3)
      have O31 : ∀ g, z2.drew.heap.size ≤ g → some g ≠ v1n.ownBlock := fun g hg e => Nat.lt_irrefl _ (Nat.lt_of_lt_of_le (HA31.out.lt g e.symm).2 hg)
      have K32 := Lib.hid (HA32.out.kept hy3)
      have O32 : ∀ g, z2.drew.heap.size ≤ g → some g ≠ v2n.ownBlock := fun g hg e => Nat.lt_irrefl _ (Nat.lt_of_lt_of_le (HA32.out.lt g e.symm).2 hg)
      have K33 := Lib.hid (HA33.out.kept hy3)
      have O33 : ∀ g, z2.drew.heap.size ≤ g → some g ≠ v3n.ownBlock := fun g hg e => Nat.lt_irrefl _ (Nat.lt_of_lt_of_le (HA33.out.lt g e.symm).2 hg)
      have K34 := Lib.hid (HA34.out.kept hy3)
      have O34 : ∀ g, z2.drew.heap.size ≤ g → some g ≠ u15.ownBlock := fun g hg e => Nat.lt_irrefl _ (Nat.lt_of_lt_of_le (HA34.out.lt g e.symm).2 hg)
      have hb58 : wb.heap.size ≤ z2.drew.heap.size := HG3.out.size
      have hb59 : z2.drew.heap.size ≤ y3.heap.size := hy3.size
      have HLB : Hid ((((b.take s).map fun F => colV p.Q F x).length + [colV p.Q LB x].length) * 24 ≤ 140737488355328) := Lib.hid (by rw [List.length_map, List.length_take, List.length_singleton]; omega)
      have HZ : Hid (∀ cs y, (encS encU).rep (fun g => z2.drew.heap.size ≤ g) y3 cs y → (encS encU).rep (fun g => (Av3 wb.heap.size v1n v2n v3n) g ∧ some g ≠ u15.ownBlock) y3 cs y) := Lib.hid (fun cs y hr => (encS encU).more hr fun g _ hz => ⟨⟨Nat.le_trans hb58 hz, O31 g hz, O32 g hz, O33 g hz⟩, O34 g hz⟩)
      have HN : Hid (∀ g, y3.heap.size ≤ g → (Av3 wb.heap.size v1n v2n v3n) g) := Lib.hid (fun g hz => ⟨Nat.le_trans hb58 (Nat.le_trans hb59 hz), O31 g (Nat.le_trans hb59 hz), O32 g (Nat.le_trans hb59 hz), O33 g (Nat.le_trans hb59 hz)⟩)
      have HBL : Hid (wb.heap.size ≤ y3.heap.size) := Lib.hid (Nat.le_trans hb58 hb59)
      clear hy3 hb58 hb59 O31 O32 O33 O34 HA31 HA32 HA33 HA34 HP3 HG3
      simp only [Act.put, List.setIfInBounds_toArray, List.set_cons_zero, List.set_cons_succ]
      refine wpList_apps rfl (.tmp 82) (.tmp 91) rfl (E := encS encU) el_nums K34.out rfl rfl h58 HZ.out HLB.out HBL.out HN.out ?_
      intro v4n z3 hacc hg6 hm6
      have Q31 : Acc (encS encU) wb.heap.size 25 (Av3 wb.heap.size v2n v3n v4n) z3 v1n ((f.take (s + 1)).map fun F => rowI p.Q F x) := K31.out.beside' hg6 hm6 (fun g _ h => h.2.2.2) (fun g _ h k => ⟨h.1, h.2.1, h.2.2.1, k⟩)
      have Q32 : Acc (encS encU) wb.heap.size 25 (Av3 wb.heap.size v1n v3n v4n) z3 v2n ((b.take (s + 1)).map fun F => rowI p.Q F x) := K32.out.beside' hg6 hm6 (fun g _ h => h.2.2.2) (fun g _ h k => ⟨h.1, h.2.1, h.2.2.1, k⟩)
      have Q33 : Acc (encS encU) wb.heap.size 25 (Av3 wb.heap.size v1n v2n v4n) z3 v3n ((f.take (s + 1)).map fun F => colV p.Q F x) := K33.out.beside' hg6 hm6 (fun g _ h => h.2.2.2) (fun g _ h k => ⟨h.1, h.2.1, h.2.2.1, k⟩)
      have hne3 : some w.heap.size ≠ u15.ownBlock := fun e => K34.out.ne_bk HPx3.out (by decide) e.symm
      have HP4 : Hid (Bk z3 w.heap.size 24 p.cells) := Lib.hid (show Bk z3 w.heap.size 24 p.cells from HPx3.out.grown hg6 hne3)
      have HG4 : Hid (wb.grownBy z3 none) := Lib.hid (grownBy_drewN (grown_up HGy3.out hg6 (fun g e => (K34.out.lt g e).1)) 0)
      have HA44 : Hid (Acc (encS encU) wb.heap.size 25 (Av3 wb.heap.size v1n v2n v3n) z3 v4n ((b.take (s + 1)).map fun F => colV p.Q F x)) := Lib.hid (by rw [HSN4.out]; exact hacc.kept (grown_drewN' z3 0))
      have HA41 := Lib.hid (Q31.kept (grown_drewN' z3 0))
      have HA42 := Lib.hid (Q32.kept (grown_drewN' z3 0))
      have HA43 := Lib.hid (Q33.kept (grown_drewN' z3 0))
      clear hacc hg6 hm6 hne3 HPx3 HGy3 HZ HN HBL HLB h58 K31 K32 K33 K34 Q31 Q32 Q33
      refine wpList_plain rfl fun K hK => ?_
      go_simp
      refine hK _ _ (wpList_nil ?_)
      clear hK K
      go_wp2_with fail
      have HFIN : Hid (RowsSt p f b x wb w.heap.size (s + 1) v1n v2n v3n v4n z3) := Lib.hid ⟨HA41.out, HA42.out, HA43.out, HA44.out, HG4.out, HP4.out⟩
      go_roundg mm
      case measure => omega
      case rel => exact ⟨s + 1, by omega, by go_num, HFIN⟩
end Go.Proofs.YtmbbahlenanpfaaDoor

namespace Go.Proofs.YtmbbahlenanpfaaDoor
open Go.ChangeShapes Go.WideShapes Go.RowKit

set_option maxRecDepth 100000 in
theorem open_params {H : Type} {enc : TypeId × Value → H} {w : World} {base : Nat} {spare : Nat → Bool} {held : Bool} {r : Reach} {b0 : Nat} {v : Value} {d : DataW H} {pl : List MemPlace}
    (hv : Value.okWide Tryd.prog w r b0 24 v) (h : DataW.Trod enc Tryd.prog w base spare held 24 v d pl) : ∃ p : Par, v = p.v ∧ p.ok := by
  obtain ⟨cs, rfl, hsz⟩ := okWide_struct Tryd.underlying24 hv
  obtain ⟨l⟩ := cs
  have hc : Tryd.prog.cellsOf 24 = 12 := by kernel_rfl
  have cu : Tryd.prog.cellsOf 22 = 1 := by kernel_rfl
  have ci : Tryd.prog.cellsOf 3 = 1 := by kernel_rfl
  have cj : Tryd.prog.cellsOf 2 = 1 := by kernel_rfl
  match l, hsz.trans hc with
  | [c0, c1, c2, c3, c4, c5, c6, c7, c8, c9, c10, c11], _ =>
    obtain ⟨fuel, hf⟩ := h
    obtain ⟨xs, n, _, _, _, hlen, hg⟩ := DataW.trod_struct Tryd.underlying24 hf
    match xs, hlen with
    | [y0, y1, y2, y3, y4, y5, y6, y7, y8, y9, y10, y11], _ =>
      have g0 := hg 0 _ rfl
      have g1 := hg 1 _ rfl
      have g2 := hg 2 _ rfl
      have g3 := hg 3 _ rfl
      have g4 := hg 4 _ rfl
      have g5 := hg 5 _ rfl
      have g6 := hg 6 _ rfl
      have g7 := hg 7 _ rfl
      have g8 := hg 8 _ rfl
      have g9 := hg 9 _ rfl
      have g10 := hg 10 _ rfl
      have g11 := hg 11 _ rfl
      simp [Value.cells, cu, ci, cj] at g0 g1 g2 g3 g4 g5 g6 g7 g8 g9 g10 g11
      obtain ⟨a0, e0, _, w0⟩ := DataW.trod_int Tryd.underlying22 g0
      simp at e0
      obtain ⟨a1, e1, _, w1⟩ := DataW.trod_int Tryd.underlying22 g1
      simp at e1
      obtain ⟨a2, e2, _, w2⟩ := DataW.trod_int Tryd.underlying22 g2
      simp at e2
      obtain ⟨a3, e3, _, w3⟩ := DataW.trod_int Tryd.underlying22 g3
      simp at e3
      obtain ⟨a4, e4, _, w4⟩ := DataW.trod_int Tryd.underlying3 g4
      simp at e4
      obtain ⟨a5, e5, _, w5⟩ := DataW.trod_int Tryd.underlying3 g5
      simp at e5
      obtain ⟨a6, e6, _, w6⟩ := DataW.trod_int Tryd.underlying3 g6
      simp at e6
      obtain ⟨a7, e7, _, w7⟩ := DataW.trod_int Tryd.underlying3 g7
      simp at e7
      obtain ⟨a8, e8, _, w8⟩ := DataW.trod_int Tryd.underlying3 g8
      simp at e8
      obtain ⟨a9, e9, _, w9⟩ := DataW.trod_int Tryd.underlying3 g9
      simp at e9
      obtain ⟨a10, e10, _, w10⟩ := DataW.trod_int Tryd.underlying2 g10
      simp at e10
      obtain ⟨a11, e11, _, w11⟩ := DataW.trod_int Tryd.underlying2 g11
      simp at e11
      subst e0 e1 e2 e3 e4 e5 e6 e7 e8 e9 e10 e11
      exact ⟨⟨a0, a1, a2, a3, a4, a5, a6, a7, a8, a9, a10, a11⟩, rfl, ⟨u64_wf w0, u64_wf w1, u64_wf w2, u64_wf w3, i64_wf w4, i64_wf w5, i64_wf w6, i64_wf w7, i64_wf w8, i64_wf w9, i64_wf w10, i64_wf w11⟩⟩
set_option maxRecDepth 100000 in
theorem open_pair {H : Type} {enc : TypeId × Value → H} {w : World} {base : Nat} {spare : Nat → Bool} {held : Bool} {r : Reach} {b0 : Nat} {v : Value} {d : DataW H} {pl : List MemPlace}
    (hv : Value.okWide Tryd.prog w r b0 37 v) (h : DataW.Trod enc Tryd.prog w base spare held 37 v d pl) : ∃ x : Int × Int, v = .agg #[.int .u64 x.1, .int .u64 x.2] ∧ U64 x.1 ∧ U64 x.2 := by
  obtain ⟨cs, rfl, hsz⟩ := okWide_struct Tryd.underlying37 hv
  obtain ⟨l⟩ := cs
  have hc : Tryd.prog.cellsOf 37 = 2 := by kernel_rfl
  have cu : Tryd.prog.cellsOf 22 = 1 := by kernel_rfl
  match l, hsz.trans hc with
  | [c0, c1], _ =>
    obtain ⟨fuel, hf⟩ := h
    obtain ⟨xs, n, _, _, _, hlen, hg⟩ := DataW.trod_struct Tryd.underlying37 hf
    match xs, hlen with
    | [y0, y1], _ =>
      have g0 := hg 0 _ rfl
      have g1 := hg 1 _ rfl
      simp [Value.cells, cu] at g0 g1
      obtain ⟨a0, e0, _, w0⟩ := DataW.trod_int Tryd.underlying22 g0
      obtain ⟨a1, e1, _, w1⟩ := DataW.trod_int Tryd.underlying22 g1
      simp at e0 e1
      subst e0 e1
      exact ⟨(a0, a1), rfl, u64_wf w0, u64_wf w1⟩
theorem cells_u64 : Tryd.prog.cellsOf 22 = 1 := by kernel_rfl
theorem reads_nums : Reads (encS encU) 25 := reads_sl Tryd.underlying25 (reads_u64 Tryd.underlying22) cells_u64
theorem cells_pair : Tryd.prog.cellsOf 37 = 2 := by kernel_rfl
theorem reads_pairs : Reads (encS encP) 31 := reads_sl Tryd.underlying31 (reads_pair Tryd.underlying37 ⟨rfl, rfl⟩ ⟨rfl, rfl⟩ Tryd.underlying22 cells_pair cells_u64) cells_pair
theorem cells_nums : Tryd.prog.cellsOf 25 = 1 := by kernel_rfl
theorem reads_rows : Reads (encS (encS encU)) 28 := reads_sl Tryd.underlying28 reads_nums cells_nums
theorem cells_rows : Tryd.prog.cellsOf 28 = 1 := by kernel_rfl
theorem reads_mat : Reads (encS (encS (encS encU))) 39 := reads_sl Tryd.underlying39 reads_rows cells_rows
theorem cells_pairs : Tryd.prog.cellsOf 31 = 1 := by kernel_rfl
theorem cells_int : Tryd.prog.cellsOf 3 = 1 := by kernel_rfl
end Go.Proofs.YtmbbahlenanpfaaDoor

namespace Go.Proofs.YtmbbahlenanpfaaDoor
open Go.RowKit
theorem grown_drewN (w : World) : ∀ n, Grown w (w.drewN n)
  | 0 => Grown.refl w
  | n + 1 => (grown_drewN w n).drew
def tabL : List Int := [0, 1, 56, 2, 57, 49, 28, 3, 61, 58, 42, 50, 38, 29, 17, 4, 62, 47, 59, 36, 45, 43, 51, 22, 53, 39, 33, 30, 24, 18, 12, 5, 63, 55, 48, 27, 60, 41, 37, 16, 46, 35, 44, 21, 52, 32, 23, 11, 54, 26, 40, 15, 34, 20, 31, 10, 25, 14, 19, 9, 13, 8, 7, 6]
theorem tabZ' : ∀ j, j < 64 → tabL.getD j 0 = ((Lib.deBruijn64tab.getD j 0 : Nat) : Int) := by decide
theorem tabZ (j : Nat) (hj : j < Lib.deBruijn64tab.length) : tabL.getD j 0 = ((Lib.deBruijn64tab.getD j 0 : Nat) : Int) := tabZ' j hj
/-- What an initialiser lays into a variable's block. -/
def layCells (cs : Array Value) : Obj → Obj
  | .cells _ t f => .cells cs t f
  | o => o
end Go.Proofs.YtmbbahlenanpfaaDoor

namespace Go.Proofs.YtmbbahlenanpfaaDoor.pedersenRows
open Go.ChangeShapes Go.WideShapes Go.ChangeAt Go.RowKit
set_option linter.unusedVariables false
theorem own : ownKnob Tryd.prog.godebug = none := by kernel_rfl
theorem gA : Tryd.prog.globalNamed "math/bits.deBruijn64tab" = some 1 := by kernel_rfl
theorem gB : Tryd.prog.globalNamed "consistory/mod.tried" = some 0 := by kernel_rfl
theorem tA : (Tryd.prog.globals[1]?).map (·.type) = some 97 := by kernel_rfl
theorem tB : (Tryd.prog.globals[0]?).map (·.type) = some 82 := by kernel_rfl
theorem cA : Tryd.prog.cellsOf 97 = 64 := by kernel_rfl
theorem cB : Tryd.prog.cellsOf 82 = 12 := by kernel_rfl
theorem c8 : Tryd.prog.cellsOf 5 = 1 := by kernel_rfl
theorem c64 : Tryd.prog.cellsOf 22 = 1 := by kernel_rfl
theorem tabs {W : World} (h : laidMetH Tryd.prog Rows.pedersenRowsRow.laid W) : TabsAt W := by
  have h1 : laidMet Tryd.prog Rows.pedersenRowsRow.laid W := h
  have a := Lib.tabIs_of_head (zs := [0, 1, 56, 2, 57, 49, 28, 3, 61, 58, 42, 50, 38, 29, 17, 4, 62, 47, 59, 36, 45, 43, 51, 22, 53, 39, 33, 30, 24, 18, 12, 5, 63, 55, 48, 27, 60, 41, 37, 16, 46, 35, 44, 21, 52, 32, 23, 11, 54, 26, 40, 15, 34, 20, 31, 10, 25, 14, 19, 9, 13, 8, 7, 6]) gA tA Tryd.underlying97 Tryd.underlying5 c8 cA h1
  have b := Lib.tabIs_of_head (rest := []) (zs := triedL) gB tB Tryd.underlying82 Tryd.underlying22 c64 cB (laidMet.tail h1)
  exact ⟨fun j hj => by rw [a.cell gA j hj]; exact congrArg (fun z => some (Value.int .u8 z)) (tabZ j hj), fun j hj => b.cell gB j hj⟩
theorem walk (p0 : Par) (v1 : Value) (l1 : List Int) (v2 : Value) (l2 : List Int) (a3 : Int) (w : World) (w0 : p0.ok) (w1 : Sl encU (fun _ => True) w v1 l1) (w2 : Sl encU (fun _ => True) w v2 l2) (w3 : (Lit.int .u64 a3).wf = true) (hT : TabsAt w) :
    Calls Tryd.prog 6 #[p0.v, v1, v2, .int .u64 a3] w fun e w' => e = .returned (.bool true) ∧ Below w.heap.size w w' :=
  (prows_any p0 v1 v2 l1 l2 a3 w w0 w1 w2 (u64_wf w3) hT).mono fun _ _ ⟨he, hg⟩ => ⟨he, below_grown hg⟩
theorem laidOut : laidOutB Tryd.prog = true := by kernel_rfl
set_option maxRecDepth 100000 in
theorem contract (H : Type) (enc : TypeId × Value → H) (W : World) (base : Nat) (args : Array Value) (ds gs : List (DataW H)) (before : List MemPlace)
    (hval : ∀ (j : Nat) t v, Tryd.f6.params[j]? = some t → args[j]? = some v → Value.okWide Tryd.prog W .any base t v)
    (hW : DataW.Whole enc Tryd.prog Tryd.f6.params.toList Rows.pedersenRowsSpec.vars false W args.toList ds gs before) (hL : laidMetH Tryd.prog Rows.pedersenRowsRow.laid W) :
    Calls Tryd.prog 6 args W fun e W' => ∃ v, e = .returned v ∧ Rows.pedersenRowsSpec.post enc Tryd.prog Tryd.f6 false true false false W args v W' := by
  have hW' := hW
  obtain ⟨p, q, hA0, hV, rfl, hfz, hnd⟩ := hW
  have hA : DataW.TrodAll enc Tryd.prog W 0 (fun _ => true) true Tryd.f6.params.toList args.toList ds p := hA0
  rw [Tryd.params6] at hA hval
  obtain ⟨v0, vs0, d0, ds0, p0, q0, hargs, rfl, rfl, h0, r0⟩ := trodAll_cons hA
  obtain ⟨v1, vs1, d1, ds1, p1, q1, rfl, rfl, rfl, h1, r1⟩ := trodAll_cons r0
  obtain ⟨v2, vs2, d2, ds2, p2, q2, rfl, rfl, rfl, h2, r2⟩ := trodAll_cons r1
  obtain ⟨v3, vs3, d3, ds3, p3, q3, rfl, rfl, rfl, h3, r3⟩ := trodAll_cons r2
  obtain ⟨rfl, rfl, rfl⟩ := trodAll_nil r3
  obtain rfl : args = #[v0, v1, v2, v3] := by cases args; simp_all
  obtain ⟨rfl, rfl⟩ := trodVars_none hV
  have k0 := h0
  have lt0 : ∀ x ∈ p0, x.block < W.heap.size := by obtain ⟨m, hm⟩ := k0; exact DataW.trod_lt m _ _ _ hm
  obtain ⟨q0', rfl, w0⟩ := open_params (hval 0 24 v0 rfl rfl) k0
  obtain ⟨a1, len1, cap1, rfl⟩ := okWide_slice Tryd.underlying25 (hval 1 25 v1 rfl rfl)
  have k1 := h1
  have lt1 : ∀ x ∈ p1, x.block < W.heap.size := by obtain ⟨m, hm⟩ := k1; exact DataW.trod_lt m _ _ _ hm
  obtain ⟨l1, w1⟩ := open_sl reads_nums k1
  obtain ⟨a2, len2, cap2, rfl⟩ := okWide_slice Tryd.underlying25 (hval 2 25 v2 rfl rfl)
  have k2 := h2
  have lt2 : ∀ x ∈ p2, x.block < W.heap.size := by obtain ⟨m, hm⟩ := k2; exact DataW.trod_lt m _ _ _ hm
  obtain ⟨l2, w2⟩ := open_sl reads_nums k2
  obtain ⟨a3, rfl, rfl, rfl, w3⟩ := open_int Tryd.underlying22 (hval 3 22 v3 rfl rfl) h3
  clear hA0
  refine (walk q0' _ l1 _ l2 a3 W w0 w1 w2 w3 (tabs hL)).mono fun e W' ⟨he, bel⟩ => ?_
  subst he
  exact ⟨_, rfl, _, _, _, [], _, [], hW', trodAll_mk1 (shut_bool Tryd.underlying4 _), (trodAll_cons_mk (Below.trod laidOut (by kernel_rfl) (of_decide_eq_true (by kernel_rfl)) k0 bel lt0) (trodAll_cons_mk (Below.trod laidOut (by kernel_rfl) (of_decide_eq_true (by kernel_rfl)) k1 bel lt1) (trodAll_cons_mk (Below.trod laidOut (by kernel_rfl) (of_decide_eq_true (by kernel_rfl)) k2 bel lt2) (trodAll_cons_mk (shut_int Tryd.underlying22 w3) trodAll_mk0)))), rfl, bel.frame _, fun h => by cases h⟩
/-- A world for the witness: the settled one, the two tables laid. -/
noncomputable def laidWorld (os : Os) : World :=
  { World.holding Tryd.prog os ⟨#[], #[], []⟩ with heap := ((World.holding Tryd.prog os ⟨#[], #[], []⟩).heap.modify 0 (layCells #[.int .u64 2, .int .u64 3, .int .u64 5, .int .u64 7, .int .u64 11, .int .u64 13, .int .u64 17, .int .u64 19, .int .u64 23, .int .u64 29, .int .u64 31, .int .u64 37])).modify 1 (layCells #[.int .u8 0, .int .u8 1, .int .u8 56, .int .u8 2, .int .u8 57, .int .u8 49, .int .u8 28, .int .u8 3, .int .u8 61, .int .u8 58, .int .u8 42, .int .u8 50, .int .u8 38, .int .u8 29, .int .u8 17, .int .u8 4, .int .u8 62, .int .u8 47, .int .u8 59, .int .u8 36, .int .u8 45, .int .u8 43, .int .u8 51, .int .u8 22, .int .u8 53, .int .u8 39, .int .u8 33, .int .u8 30, .int .u8 24, .int .u8 18, .int .u8 12, .int .u8 5, .int .u8 63, .int .u8 55, .int .u8 48, .int .u8 27, .int .u8 60, .int .u8 41, .int .u8 37, .int .u8 16, .int .u8 46, .int .u8 35, .int .u8 44, .int .u8 21, .int .u8 52, .int .u8 32, .int .u8 23, .int .u8 11, .int .u8 54, .int .u8 26, .int .u8 40, .int .u8 15, .int .u8 34, .int .u8 20, .int .u8 31, .int .u8 10, .int .u8 25, .int .u8 14, .int .u8 19, .int .u8 9, .int .u8 13, .int .u8 8, .int .u8 7, .int .u8 6]) }
theorem laid_met (os : Os) : laidMet Tryd.prog Rows.pedersenRowsRow.laid ((laidWorld os).forCall (fun _ _ => 0) ⟨#[], #[.agg #[.int .u64 0, .int .u64 0, .int .u64 0, .int .u64 0, .int .i64 0, .int .i64 0, .int .i64 0, .int .i64 0, .int .i64 0, .int .i64 0, .int .i64 0, .int .i64 0], .slice none 0 0, .slice none 0 0, .int .u64 0], []⟩).memory :=
  laidMet_of_run' 8 (by kernel_rfl) (by kernel_rfl)
theorem reads (os : Os) {H : Type} (enc : TypeId × Value → H) : ∃ places, DataW.whole enc Tryd.prog ((laidWorld os).forCall (fun _ _ => 0) ⟨#[], #[.agg #[.int .u64 0, .int .u64 0, .int .u64 0, .int .u64 0, .int .i64 0, .int .i64 0, .int .i64 0, .int .i64 0, .int .i64 0, .int .i64 0, .int .i64 0, .int .i64 0], .slice none 0 0, .slice none 0 0, .int .u64 0], []⟩).memory Tryd.f6.params.toList Rows.pedersenRowsSpec.vars false (#[.agg #[.int .u64 0, .int .u64 0, .int .u64 0, .int .u64 0, .int .i64 0, .int .i64 0, .int .i64 0, .int .i64 0, .int .i64 0, .int .i64 0, .int .i64 0, .int .i64 0], .slice none 0 0, .slice none 0 0, .int .u64 0] : Array Value).toList 8 = some ([.agg [.lit (.int .u64 0), .lit (.int .u64 0), .lit (.int .u64 0), .lit (.int .u64 0), .lit (.int .i64 0), .lit (.int .i64 0), .lit (.int .i64 0), .lit (.int .i64 0), .lit (.int .i64 0), .lit (.int .i64 0), .lit (.int .i64 0), .lit (.int .i64 0)], .nil, .nil, .lit (.int .u64 0)], [], places) :=
  ⟨[], by kernel_rfl⟩
set_option maxRecDepth 100000 in
theorem lifted (os : Os) (started : os.Started) (H : Type) (enc : TypeId × Value → H) (F : Stop.Interp) :
    ReturnsInHanded {} Tryd.checked os 6 .any ((OpenSpec.ofChange Rows.pedersenRowsSpec).preRow enc Tryd.prog Tryd.f6 Rows.pedersenRowsRow.domain false Rows.pedersenRowsRow.laid) (((OpenSpec.ofChange Rows.pedersenRowsSpec).at F).post enc Tryd.prog Tryd.f6 false true false false) := by
  obtain ⟨places, hx⟩ := reads os enc
  refine returnsInHanded_of_row (C := Tryd.checked) (s := OpenSpec.ofChange Rows.pedersenRowsSpec) own started (by kernel_rfl) Tryd.func6
    (witness_row_at (enc := enc) (C := Tryd.checked) false (laidWorld os) #[.agg #[.int .u64 0, .int .u64 0, .int .u64 0, .int .u64 0, .int .i64 0, .int .i64 0, .int .i64 0, .int .i64 0, .int .i64 0, .int .i64 0, .int .i64 0, .int .i64 0], .slice none 0 0, .slice none 0 0, .int .u64 0] rfl (by kernel_rfl) (by kernel_rfl) (by kernel_rfl)
      (OpenSpec.preRow_of_cond 8 hx (by kernel_rfl) (fun k hk => by cases hk) (by kernel_rfl) (laid_met os))) ?_
  intro W base args ds gs before hval hW _ _ _ hL _ _
  exact contract H enc W base args ds gs before hval hW hL
set_option maxRecDepth 100000 in
theorem said : Rows.PedersenRowsSaid :=
  OpenClaim.holds_of_cond 6 Tryd.f6 rfl rfl rfl rfl rfl rfl rfl ⟨rfl, rfl, rfl, rfl, rfl⟩ rfl rfl rfl rfl rfl (by kernel_rfl) Tryd.func6 (by kernel_rfl)
    (of_decide_eq_true (by kernel_rfl)) (by unfold Func.isWrapper; first | (rw [if_pos (by decide +kernel)]; kernel_rfl) | (rw [if_neg (by decide +kernel)]; exact ⟨rfl, rfl⟩))
    (fun os started H enc _ F => by rw [OpenClaim.pre_eq_preRow]; exact lifted os started H enc F)
set_option maxRecDepth 100000 in
theorem plain (f : FuncId) (fn : Func) (hf : Tryd.pinned.checked.prog.funcNamed "consistory/consistorylaw08.PedersenRows" = some f) (hfn : Tryd.pinned.checked.prog.funcs[f]? = some fn) :
    false = Tryd.pinned.checked.prog.looks [] ∧ ∀ (j : Nat) t, fn.params[j]? = some t → Tryd.pinned.checked.prog.wantsStandIn t = false := by
  obtain rfl : f = 6 := Option.some.inj ((show Tryd.prog.funcNamed "consistory/consistorylaw08.PedersenRows" = some 6 by kernel_rfl).symm.trans hf) |>.symm
  obtain rfl : fn = Tryd.f6 := (Option.some.inj (Tryd.func6.symm.trans hfn)).symm
  refine ⟨by kernel_rfl, fun j t ht => ?_⟩
  rw [Tryd.params6] at ht
  have hmem := Array.mem_of_getElem? ht
  have hor : t = 24 ∨ t = 25 ∨ t = 25 ∨ t = 22 := by simpa using hmem
  rcases hor with rfl | rfl | rfl | rfl
  all_goals first | exact (show Tryd.prog.wantsStandIn 25 = false by kernel_rfl) | exact (show Tryd.prog.wantsStandIn 24 = false by kernel_rfl) | exact (show Tryd.prog.wantsStandIn 22 = false by kernel_rfl)
set_option maxRecDepth 100000 in
theorem card : Rows.PedersenRowsCardSaid :=
  Claim7.holds_tied_plain_at .later [] _ _ _ _ said (fun _ h => by cases h) (by kernel_rfl) (fun _ h => by cases h) pedersenRows_row_tie rfl ⟨rfl, rfl⟩ (by kernel_rfl) rfl plain (by kernel_rfl)
end Go.Proofs.YtmbbahlenanpfaaDoor.pedersenRows
