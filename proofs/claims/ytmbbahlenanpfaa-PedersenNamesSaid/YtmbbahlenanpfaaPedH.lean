/- pedersen.Formed: slices.ContainsFunc over numbers and over lists of numbers. -/
import Derived.Test.YtmbbahlenanpfaaPedG
namespace Go.Proofs.Ytmbbahlenanpfaa
open Go Go.RowKit

/-- A call that found whether there is one. -/
def FoundB (b : Bool) (w : World) (e : Ending) (w' : World) : Prop := ∃ n : Int, e = .returned (.int .i64 n) ∧ decide (0 ≤ n) = b ∧ I64 n ∧ w.grownBy w' none
set_option maxHeartbeats 400000 in
theorem notIs_any (p : Par) (B : Nat) (x : Int) (w : World) (hp : p.ok) (hb : Bk w B 25 p.cells) (hx : U64 x) :
    Calls Try.prog 33 #[.int .u64 x, .pointer (some ⟨B, 0, none⟩)] w fun e w' => e = .returned (.bool (!isB p x)) ∧ w.grownBy w' none := by
  have HC := Lib.hid (is_any p x w hp hx)
  have hpr := hb.prule
  clear hp hb hx
  go_enter Try.func33, Try.ntmps33
  go_wp2_with fail
  refine HC.out.mono ?_
  rintro e w1 ⟨rfl, hg⟩
  have HG := Lib.hid hg
  clear hg hpr
  go_wp2
  go_ret
  exact ⟨rfl, HG.out⟩
set_option maxHeartbeats 400000 in
theorem indexNot_any (p : Par) (B : Nat) (v : Value) (l : List Int) (X : Nat → Prop) (w : World) (hp : p.ok) (hb : Bk w B 25 p.cells) (h : Sl encU X w v l) :
    Calls Try.prog 44 #[v, .func (.func 33) #[] #[.pointer (some ⟨B, 0, none⟩)]] w (FoundB (l.any fun x => !isB p x) w) := by
  have HP := Lib.hid hp
  have HB := Lib.hid hb
  have H := Lib.hid h
  have hl := h.bound
  obtain ⟨A, c, rfl, _, _⟩ := h.form
  clear hp hb h
  go_enter Try.func44, Try.ntmps44
  go_wp2_with fail
  go_loopg [8] l.length (fun n s8 wx => ∃ j : Nat, j + n = l.length ∧ s8 = .int .i64 j ∧ Hid (w.grownBy wx none ∧ ∀ i (h : i < l.length), i < j → isB p l[i] = true))
  case atStart => exact ⟨0, by omega, rfl, Lib.hid ⟨World.grownBy.refl w none, fun i hi h => absurd h (by omega)⟩⟩
  case round =>
    obtain ⟨j, hj, rfl, HX⟩ := hrel
    cases gk with
    | zero =>
      obtain rfl : j = l.length := by omega
      have HE : Hid (FoundB (l.any fun x => !isB p x) w (.returned (.int .i64 (-1))) wr) := Lib.hid ⟨-1, rfl, by
        have : (l.any fun x => !isB p x) = false := by
          rw [List.any_eq_false]
          intro b hb
          obtain ⟨i, hi, rfl⟩ := List.getElem_of_mem hb
          simp [HX.out.2 i hi hi]
        rw [this]
        rfl, ⟨by decide, by decide⟩, HX.out.1⟩
      clear HX
      go_wp2
      go_ret
      exact HE.out
    | succ k =>
      have hjn : (j : Int) < (l.length : Int) := by omega
      have hjN : j < l.length := by omega
      obtain ⟨g, o, c', e, _, _, hcu, hu⟩ := (H.out.kept HX.out.1).atU hjN
      injection e with e1 e2 e3
      subst e1 e3
      have HC := Lib.hid (notIs_any p B l[j] wr HP.out (HB.out.grown HX.out.1 (by simp)) hu)
      have HV : Hid (isB p l[j] = true ∨ isB p l[j] = false) := Lib.hid (by cases isB p l[j] <;> simp)
      have HR : Hid (isB p l[j] = true → ∀ i (h : i < l.length), i < j + 1 → isB p l[i] = true) := Lib.hid (fun h i hi hl => by
        rcases Nat.lt_or_ge i j with h1 | h1
        · exact HX.out.2 i hi h1
        · obtain rfl : i = j := by omega
          exact h)
      have HN : Hid (isB p l[j] = false → (l.any fun x => !isB p x) = true) := Lib.hid (fun h => List.any_eq_true.2 ⟨_, List.getElem_mem hjN, by simp [h]⟩)
      have HG := Lib.hid HX.out.1
      clear HX hu e2
      generalize isB p l[j] = b at *
      generalize l[j] = x at *
      rcases HV.out with rfl | rfl
      · go_wp2_with fail
        refine HC.out.mono ?_
        rintro e w1 ⟨rfl, hg⟩
        have HG1 := Lib.hid (HG.out.trans hg)
        clear hg
        go_wp2
        go_roundg k
        case measure => omega
        case rel => exact ⟨j + 1, by omega, by go_num, Lib.hid ⟨HG1.out, HR.out (by simp)⟩⟩
      · have HE : Hid (∀ w1, w.grownBy w1 none → FoundB (l.any fun x => !isB p x) w (.returned (.int .i64 j)) w1) := Lib.hid (fun w1 hg => ⟨j, rfl, by rw [HN.out rfl]; simp, ⟨by omega, by omega⟩, hg⟩)
        go_wp2_with fail
        refine HC.out.mono ?_
        rintro e w1 ⟨rfl, hg⟩
        have HG1 := Lib.hid (HG.out.trans hg)
        clear hg
        go_wp2
        go_ret
        exact HE.out _ HG1.out
set_option maxHeartbeats 400000 in
theorem containsNot_any (p : Par) (B : Nat) (v : Value) (l : List Int) (X : Nat → Prop) (w : World) (hp : p.ok) (hb : Bk w B 25 p.cells) (h : Sl encU X w v l) :
    Calls Try.prog 32 #[v, .func (.func 33) #[] #[.pointer (some ⟨B, 0, none⟩)]] w fun e w' => e = .returned (.bool (l.any fun x => !isB p x)) ∧ w.grownBy w' none := by
  have HC := Lib.hid (indexNot_any p B v l X w hp hb h)
  obtain ⟨A, c, rfl, _, _⟩ := h.form
  clear hp hb h
  go_enter Try.func32, Try.ntmps32
  go_wp2_with fail
  refine HC.out.mono ?_
  rintro e w1 ⟨r, rfl, hr, _, hg⟩
  have HG := Lib.hid hg
  have HR := Lib.hid hr
  clear hg hr
  go_wp2
  go_ret
  exact ⟨ret_bool HR.out, HG.out⟩
/-- A list is not as long as that, or not of the group. -/
def rowBad (p : Par) (long : Int) (l : List Int) : Bool := decide ((l.length : Int) ≠ long) || l.any fun x => !isB p x
set_option maxHeartbeats 400000 in
theorem allRow_any (p : Par) (Bn B : Nat) (long : Int) (v : Value) (l : List Int) (X : Nat → Prop) (w : World) (hp : p.ok) (hn : Bk w Bn 3 #[.int .i64 long]) (hb : Bk w B 25 p.cells) (h : Sl encU X w v l) :
    Calls Try.prog 31 #[v, .pointer (some ⟨Bn, 0, none⟩), .pointer (some ⟨B, 0, none⟩)] w fun e w' => e = .returned (.bool (rowBad p long l)) ∧ w.grownBy w' none := by
  have HC := Lib.hid (containsNot_any p B v l X w hp hb h)
  have hc := hn.cell 0
  have hc' : w.cell? ⟨Bn, 0, none⟩ = some (.int .i64 long) := hc
  obtain ⟨A, c, rfl, _, _⟩ := h.form
  clear hp hb h hn hc
  by_cases hne : (l.length : Int) = long
  · have HR : Hid (rowBad p long l = l.any fun x => !isB p x) := Lib.hid (by simp [rowBad, hne])
    go_enter Try.func31, Try.ntmps31
    go_wp2_with fail
    refine HC.out.mono ?_
    rintro e w1 ⟨rfl, hg⟩
    have HG := Lib.hid hg
    clear hg
    go_wp2
    go_ret
    exact ⟨ret_bool HR.out.symm, HG.out⟩
  · have HR : Hid (rowBad p long l = true) := Lib.hid (by simp [rowBad, hne])
    go_enter Try.func31, Try.ntmps31
    go_wp2
    go_ret
    exact ⟨ret_bool HR.out.symm, World.grownBy.refl w none⟩
set_option maxHeartbeats 400000 in
theorem indexRow_any (p : Par) (Bn B : Nat) (long : Int) (v : Value) (l : List (List Int)) (X : Nat → Prop) (w : World) (hp : p.ok) (hn : Bk w Bn 3 #[.int .i64 long]) (hb : Bk w B 25 p.cells) (h : Sl (encS encU) X w v l) :
    Calls Try.prog 43 #[v, .func (.func 31) #[] #[.pointer (some ⟨Bn, 0, none⟩), .pointer (some ⟨B, 0, none⟩)]] w (FoundB (l.any fun x => rowBad p long x) w) := by
  have HP := Lib.hid hp
  have HB := Lib.hid hb
  have HBN := Lib.hid hn
  have H := Lib.hid h
  have hl := h.bound
  obtain ⟨A, c, rfl, _, _⟩ := h.form
  clear hp hb hn h
  go_enter Try.func43, Try.ntmps43
  go_wp2_with fail
  go_loopg [8] l.length (fun n s8 wx => ∃ j : Nat, j + n = l.length ∧ s8 = .int .i64 j ∧ Hid (w.grownBy wx none ∧ ∀ i (h : i < l.length), i < j → rowBad p long l[i] = false))
  case atStart => exact ⟨0, by omega, rfl, Lib.hid ⟨World.grownBy.refl w none, fun i hi h => absurd h (by omega)⟩⟩
  case round =>
    obtain ⟨j, hj, rfl, HX⟩ := hrel
    cases gk with
    | zero =>
      obtain rfl : j = l.length := by omega
      have HE : Hid (FoundB (l.any fun x => rowBad p long x) w (.returned (.int .i64 (-1))) wr) := Lib.hid ⟨-1, rfl, by
        have : (l.any fun x => rowBad p long x) = false := by
          rw [List.any_eq_false]
          intro b hb
          obtain ⟨i, hi, rfl⟩ := List.getElem_of_mem hb
          simp [HX.out.2 i hi hi]
        rw [this]
        rfl, ⟨by decide, by decide⟩, HX.out.1⟩
      clear HX
      go_wp2
      go_ret
      exact HE.out
    | succ k =>
      have hjn : (j : Int) < (l.length : Int) := by omega
      have hjN : j < l.length := by omega
      obtain ⟨g, o, c', u, e, _, _, hcu, hu⟩ := (H.out.kept HX.out.1).atS hjN
      injection e with e1 e2 e3
      subst e1 e3
      have HC := Lib.hid (allRow_any p Bn B long u l[j] X wr HP.out (HBN.out.grown HX.out.1 (by simp)) (HB.out.grown HX.out.1 (by simp)) hu)
      have HV : Hid (rowBad p long l[j] = false ∨ rowBad p long l[j] = true) := Lib.hid (by cases rowBad p long l[j] <;> simp)
      have HR : Hid (rowBad p long l[j] = false → ∀ i (h : i < l.length), i < j + 1 → rowBad p long l[i] = false) := Lib.hid (fun h i hi hl => by
        rcases Nat.lt_or_ge i j with h1 | h1
        · exact HX.out.2 i hi h1
        · obtain rfl : i = j := by omega
          exact h)
      have HN : Hid (rowBad p long l[j] = true → (l.any fun x => rowBad p long x) = true) := Lib.hid (fun h => List.any_eq_true.2 ⟨_, List.getElem_mem hjN, by simp [h]⟩)
      obtain ⟨A7, c7, e7, _, _⟩ := hu.form
      generalize l[j].length = n7 at e7
      subst e7
      have HG := Lib.hid HX.out.1
      clear HX hu e2
      generalize rowBad p long l[j] = b at *
      generalize l[j] = x at *
      rcases HV.out with rfl | rfl
      · go_wp2_with fail
        refine HC.out.mono ?_
        rintro e w1 ⟨rfl, hg⟩
        have HG1 := Lib.hid (HG.out.trans hg)
        clear hg
        go_wp2
        go_roundg k
        case measure => omega
        case rel => exact ⟨j + 1, by omega, by go_num, Lib.hid ⟨HG1.out, HR.out (by simp)⟩⟩
      · have HE : Hid (∀ w1, w.grownBy w1 none → FoundB (l.any fun x => rowBad p long x) w (.returned (.int .i64 j)) w1) := Lib.hid (fun w1 hg => ⟨j, rfl, by rw [HN.out rfl]; simp, ⟨by omega, by omega⟩, hg⟩)
        go_wp2_with fail
        refine HC.out.mono ?_
        rintro e w1 ⟨rfl, hg⟩
        have HG1 := Lib.hid (HG.out.trans hg)
        clear hg
        go_wp2
        go_ret
        exact HE.out _ HG1.out
set_option maxHeartbeats 400000 in
theorem containsRow_any (p : Par) (Bn B : Nat) (long : Int) (v : Value) (l : List (List Int)) (X : Nat → Prop) (w : World) (hp : p.ok) (hn : Bk w Bn 3 #[.int .i64 long]) (hb : Bk w B 25 p.cells) (h : Sl (encS encU) X w v l) :
    Calls Try.prog 30 #[v, .func (.func 31) #[] #[.pointer (some ⟨Bn, 0, none⟩), .pointer (some ⟨B, 0, none⟩)]] w fun e w' => e = .returned (.bool (l.any fun x => rowBad p long x)) ∧ w.grownBy w' none := by
  have HC := Lib.hid (indexRow_any p Bn B long v l X w hp hn hb h)
  obtain ⟨A, c, rfl, _, _⟩ := h.form
  clear hp hb hn h
  go_enter Try.func30, Try.ntmps30
  go_wp2_with fail
  refine HC.out.mono ?_
  rintro e w1 ⟨r, rfl, hr, _, hg⟩
  have HG := Lib.hid hg
  have HR := Lib.hid hr
  clear hg hr
  go_wp2
  go_ret
  exact ⟨ret_bool HR.out, HG.out⟩
end Go.Proofs.Ytmbbahlenanpfaa
