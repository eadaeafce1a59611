/- pedersen.Square and Bonded, walked (printed by mk_square.py). -/
import Derived.Test.YtmbbahlenanpfaaPedI
import Derived.Test.YtmbbahlenanpfaaMono
namespace Go.Proofs.Ytmbbahlenanpfaa
open Go Go.RowKit

/-- A list of a matrix that is none. -/
def sqBad (p : Par) (l : List (List Int)) : Bool := !allB p l (wrap64 (p.T + 1)) (wrap64 (p.T + 1))
set_option maxHeartbeats 400000 in
theorem sqOne_any (p : Par) (B : Nat) (v : Value) (l : List (List Int)) (X : Nat → Prop) (w : World) (hp : p.ok) (hb : Bk w B 25 p.cells) (h : Sl (encS encU) X w v l) :
    Calls Try.prog 20 #[v, .pointer (some ⟨B, 0, none⟩)] w fun e w' => e = .returned (.bool (sqBad p l)) ∧ w.grownBy w' none := by
  have HC := Lib.hid (fun w' (hw : w.grownBy w' none) => all_any p v l (wrap64 (p.T + 1)) (wrap64 (p.T + 1)) X w' hp (h.kept hw))
  have HG : Hid (w.grownBy w none) := Lib.hid (World.grownBy.refl w none)
  have HGd : Hid (w.grownBy w.drew none) := Lib.hid (grown_drewN' w 1)
  have hc := hb.prule
  obtain ⟨A, c, rfl, _, _⟩ := h.form
  clear hp hb h
  go_enter Try.func20, Try.ntmps20
  go_wp2_with fail
  refine (HC.out _ (by first | exact HG.out | exact HGd.out)).mono ?_
  rintro e w1 ⟨rfl, hg⟩
  have HG1 := Lib.hid hg
  clear hg
  go_wp2
  go_ret
  exact ⟨rfl, by first | exact HG1.out | exact HGd.out.trans HG1.out⟩
set_option maxHeartbeats 400000 in
theorem indexSq (p : Par) (B : Nat) (v : Value) (l : List (List (List Int))) (X : Nat → Prop) (w : World) (hp : p.ok) (hb : Bk w B 25 p.cells) (h : Sl (encS (encS encU)) X w v l) :
    Calls Try.prog 29 #[v, .func (.func 20) #[] #[.pointer (some ⟨B, 0, none⟩)]] w (FoundB (l.any fun x => sqBad p x) w) := by
  have Hhp := Lib.hid hp
  have Hhb := Lib.hid hb
  have H := Lib.hid h
  have hl := h.bound
  obtain ⟨A, c, rfl, _, _⟩ := h.form
  clear h hp hb
  go_enter Try.func29, Try.ntmps29
  go_wp2_with fail
  go_loopg [8] l.length (fun n s8 wx => ∃ j : Nat, j + n = l.length ∧ s8 = .int .i64 j ∧ Hid (w.grownBy wx none ∧ ∀ i (h : i < l.length), i < j → sqBad p l[i] = false))
  case atStart => exact ⟨0, by omega, rfl, Lib.hid ⟨World.grownBy.refl w none, fun i hi h => absurd h (by omega)⟩⟩
  case round =>
    obtain ⟨j, hj, rfl, HX⟩ := hrel
    cases gk with
    | zero =>
      obtain rfl : j = l.length := by omega
      have HE : Hid (FoundB (l.any fun x => sqBad p x) w (.returned (.int .i64 (-1))) wr) := Lib.hid ⟨-1, rfl, by
        have : (l.any fun x => sqBad p x) = false := by
          rw [List.any_eq_false]
          intro b hb
          obtain ⟨i, hi, rfl⟩ := List.getElem_of_mem hb
          simp [HX.out.2 i hi hi]
        rw [this]
        rfl, ⟨by decide, by decide⟩, HX.out.1⟩
      clear HX
      go_wp2
      go_ret
      exact HE.out
    | succ k =>
      have hjn : (j : Int) < (l.length : Int) := by omega
      have hjN : j < l.length := by omega
      obtain ⟨g, o, c', u, e, _, _, hcu, hu⟩ := (H.out.kept HX.out.1).atS hjN
      injection e with e1 e2 e3
      subst e1 e3
      have HC := Lib.hid (sqOne_any p B u l[j] X wr (Hhp.out) (Hhb.out.grown HX.out.1 (by simp)) hu)
      have HV : Hid (sqBad p l[j] = false ∨ sqBad p l[j] = true) := Lib.hid (by cases sqBad p l[j] <;> simp)
      have HR : Hid (sqBad p l[j] = false → ∀ i (h : i < l.length), i < j + 1 → sqBad p l[i] = false) := Lib.hid (fun h i hi hl => by
        rcases Nat.lt_or_ge i j with h1 | h1
        · exact HX.out.2 i hi h1
        · obtain rfl : i = j := by omega
          exact h)
      have HN : Hid (sqBad p l[j] = true → (l.any fun x => sqBad p x) = true) := Lib.hid (fun h => List.any_eq_true.2 ⟨_, List.getElem_mem hjN, by simp [h]⟩)
      obtain ⟨A7, c7, e7, _, _⟩ := hu.form
      generalize l[j].length = n7 at e7
      subst e7
      have HG := Lib.hid HX.out.1
      clear HX hu e2
      generalize sqBad p l[j] = b at *
      generalize l[j] = x at *
      rcases HV.out with rfl | rfl
      · go_wp2_with fail
        refine HC.out.mono ?_
        rintro e w1 ⟨rfl, hg⟩
        have HG1 := Lib.hid (HG.out.trans hg)
        clear hg
        go_wp2
        go_roundg k
        case measure => omega
        case rel => exact ⟨j + 1, by omega, by go_num, Lib.hid ⟨HG1.out, HR.out (by simp)⟩⟩
      · have HE : Hid (∀ w1, w.grownBy w1 none → FoundB (l.any fun x => sqBad p x) w (.returned (.int .i64 j)) w1) := Lib.hid (fun w1 hg => ⟨j, rfl, by rw [HN.out rfl]; simp, ⟨by omega, by omega⟩, hg⟩)
        go_wp2_with fail
        refine HC.out.mono ?_
        rintro e w1 ⟨rfl, hg⟩
        have HG1 := Lib.hid (HG.out.trans hg)
        clear hg
        go_wp2
        go_ret
        exact HE.out _ HG1.out
set_option maxHeartbeats 400000 in
theorem containsSq (p : Par) (B : Nat) (v : Value) (l : List (List (List Int))) (X : Nat → Prop) (w : World) (hp : p.ok) (hb : Bk w B 25 p.cells) (h : Sl (encS (encS encU)) X w v l) :
    Calls Try.prog 19 #[v, .func (.func 20) #[] #[.pointer (some ⟨B, 0, none⟩)]] w fun e w' => e = .returned (.bool (l.any fun x => sqBad p x)) ∧ w.grownBy w' none := by
  have HC := Lib.hid (indexSq p B v l X w hp hb h)
  obtain ⟨A, c, rfl, _, _⟩ := h.form
  clear h hp hb
  go_enter Try.func19, Try.ntmps19
  go_wp2_with fail
  refine HC.out.mono ?_
  rintro e w1 ⟨r, rfl, hr, _, hg⟩
  have HG := Lib.hid hg
  have HR := Lib.hid hr
  clear hg hr
  go_wp2
  go_ret
  exact ⟨ret_bool HR.out, HG.out⟩
/-- Square: as many lists as there are secrets, each a square of numbers of the group. -/
def squareB (p : Par) (m : List (List (List Int))) : Bool := decide ((m.length : Int) = secretsI p) && !m.any fun x => sqBad p x
set_option maxHeartbeats 400000 in
theorem square_any (p : Par) (v : Value) (m : List (List (List Int))) (X : Nat → Prop) (w : World) (hp : p.ok) (h : Sl (encS (encS encU)) X w v m) :
    Calls Try.prog 9 #[p.v, v] w fun e w' => e = .returned (.bool (squareB p m)) ∧ w.grownBy w' none := by
  have HP := Lib.hid hp
  have H := Lib.hid h
  have HB : Hid (Bk (w.alloc (.cells p.cells 25)) w.heap.size 25 p.cells) := Lib.hid (Bk.new w _ _)
  have HG : Hid (w.grownBy (w.alloc (.cells p.cells 25)) none) := Lib.hid (World.grownBy_alloc w _ none)
  have HS := Lib.hid (secrets_any p)
  obtain ⟨A, c, rfl, _, _⟩ := h.form
  clear hp h
  by_cases hne : (m.length : Int) = secretsI p
  · have HR : Hid (squareB p m = !m.any fun x => sqBad p x) := Lib.hid (by simp [squareB, hne])
    have hd : ((m.length : Int) == secretsI p) = true := by simp [hne]
    go_enter Try.func9, Try.ntmps9
    go_wp2_with fail
    refine (HS.out _).mono ?_
    rintro e w1 ⟨rfl, hg⟩
    have HG1 := hidTrans hg HG
    have HB1 := bkGrown hg HB
    clear hg
    go_wp2_with fail
    refine (containsSq p w.heap.size _ m X w1 HP.out HB1.out (H.out.kept HG1.out)).mono ?_
    rintro e w2 ⟨rfl, hg⟩
    have HG2 := hidTrans hg HG1
    clear hg
    go_wp2
    go_ret
    exact ⟨ret_bool HR.out.symm, HG2.out⟩
  · have HR : Hid (squareB p m = false) := Lib.hid (by simp [squareB, hne])
    have hd : ((m.length : Int) == secretsI p) = false := by simp [hne]
    go_enter Try.func9, Try.ntmps9
    go_wp2_with fail
    refine (HS.out _).mono ?_
    rintro e w1 ⟨rfl, hg⟩
    have HG1 := hidTrans hg HG
    clear hg
    go_wp2
    go_ret
    exact ⟨ret_bool HR.out.symm, HG1.out⟩
end Go.Proofs.Ytmbbahlenanpfaa
