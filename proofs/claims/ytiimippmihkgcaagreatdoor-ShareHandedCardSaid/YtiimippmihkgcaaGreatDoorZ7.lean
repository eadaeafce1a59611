/- fixed.Num, fit, within and slices.ContainsFunc at fixed's closures, walked (printed by mk_fixa.py). fixed.numbers, May, Secrets; consistorylaw20.picked, values, walked. fixed.Secrets, walked (printed by mk_fixc.py). The same steps, where the region does not draw its order. What is known of tuples and structs in closed laws. consistorylaw20.works, walked (printed by mk_snames.py). consistorylaw20.ShareWhole, walked (printed by mk_whoc.py). consistorylaw20.ShareHanded, walked (printed by mk_shand.py). Params and pairs that came in by value. Arguments of the type []int64, opened. -/
import Derived.Test.YtiimippmihkgcaaGreatDoorZ6
import Derived.Deep.DeepCutAuto
namespace Go.Proofs.YtiimippmihkgcaaGreatDoor
open Go Go.RowKit

set_option maxHeartbeats 400000 in
theorem fnum_any (n q : Int) (w : World) (hn : I64 n) (_hq : U64 q) (hm : mayB q = true) :
    Calls Tryz.prog 47 #[.int .i64 n, .int .u64 q] w fun e w' => e = .returned (.int .u64 (n % q)) ∧ w.grownBy w' none := by
  obtain ⟨n0, n1⟩ := hn
  by_cases h : n < 0
  · have e1 : IntKind.u64.wrap n = n + 18446744073709551616 := by rw [IntKind.wrap_u64]; omega
    have e2 : n % 18446744073709551616 = n + 18446744073709551616 := by omega
    have e3 : IntKind.u64.wrap (-(n + 18446744073709551616)) = -n := by rw [IntKind.wrap_u64]; omega
    have e4 : (-(n + 18446744073709551616)) % 18446744073709551616 = -n := by omega
    have HC := Lib.hid (sub_gr 0 (-n) q w ⟨by decide, by decide⟩ ⟨by omega, by omega⟩)
    have HV : Hid (subI 0 (-n) q = n % q) := Lib.hid (by rw [subI_yes _ _ _ hm]; congr 1; omega)
    rw [HV.out] at HC
    clear hm n0 n1
    go_enter Tryz.func47, Tryz.ntmps47
    go_wp2_with fail
    refine HC.out.mono ?_
    rintro e w1 ⟨rfl, hg⟩
    have HG := Lib.hid hg
    clear hg
    go_wp2
    go_ret
    exact ⟨rfl, HG.out⟩
  · have e1 : IntKind.u64.wrap n = n := IntWalk.u64_in _ (by omega)
    have HC := Lib.hid (add_gr n 0 q w ⟨by omega, by omega⟩ ⟨by decide, by decide⟩)
    have HV : Hid (addI n 0 q = n % q) := Lib.hid (by rw [addI_yes _ _ _ hm, Int.add_zero])
    rw [HV.out] at HC
    clear hm n0 n1
    go_enter Tryz.func47, Tryz.ntmps47
    go_wp2_with fail
    refine HC.out.mono ?_
    rintro e w1 ⟨rfl, hg⟩
    have HG := Lib.hid hg
    clear hg
    go_wp2
    go_ret
    exact ⟨rfl, HG.out⟩
set_option maxHeartbeats 400000 in
theorem fit_yes (p : Par) (w : World) (hm : mayP p = true) :
    Calls Tryz.prog 94 #[p.v] w fun e w' => e = .returned (.bool true) ∧ w.grownBy w' none := by
  obtain ⟨k1, k2, d1, d2, M1, M2, _, x1, x2, _⟩ := may_sizes hm
  have a1 : (0 : Int) ≤ p.K := by omega
  have a2 : (0 : Int) ≤ p.D := by omega
  have a3 : (0 : Int) ≤ p.M := by omega
  have a4 : (0 : Int) ≤ p.X := by omega
  clear hm
  go_enter Tryz.func94, Tryz.ntmps94
  go_wp2
  go_ret
  exact ⟨by simp [*], World.grownBy_alloc w _ none⟩
/-- Farther from 0 than that. -/
def farB (most n : Int) : Bool := decide (n < wrap64 (-most)) || decide (n > most)
theorem farOne_any (most : Int) (B : Nat) (n : Int) (w : World) (hb : Bk w B 2 #[.int .i64 most]) :
    Calls Tryz.prog 122 #[.int .i64 n, .pointer (some ⟨B, 0, none⟩)] w fun e w' => e = .returned (.bool (farB most n)) ∧ w.grownBy w' none := by
  have c0 : w.cell? ⟨B, 0, none⟩ = some (.int .i64 most) := hb.cell 0
  clear hb
  by_cases h1 : n < wrap64 (-most)
  · have hr : farB most n = true := by simp [farB, h1]
    rw [hr]
    clear hr
    go_enter Tryz.func122, Tryz.ntmps122
    go_wp2
    go_ret
    exact ⟨by simp [*], World.grownBy.refl _ none⟩
  · have hr : farB most n = decide (n > most) := by simp [farB, h1]
    rw [hr]
    clear hr
    go_enter Tryz.func122, Tryz.ntmps122
    go_wp2
    go_ret
    exact ⟨by simp [*], World.grownBy.refl _ none⟩
set_option maxHeartbeats 400000 in
theorem indexFar (most : Int) (B : Nat) (v : Value) (l : List (Int)) (X : Nat → Prop) (w : World) (hb : Bk w B 2 #[.int .i64 most]) (h : Sl encI X w v l) :
    Calls Tryz.prog 132 #[v, .func (.func 122) #[] #[.pointer (some ⟨B, 0, none⟩)]] w (FoundB (l.any fun x => farB most x) w) := by
  have Hhb := Lib.hid hb
  have H := Lib.hid h
  have hl := h.bound
  obtain ⟨A, c, rfl, _, _⟩ := h.form
  clear h hb
  go_enter Tryz.func132, Tryz.ntmps132
  go_wp2_with fail
  go_loopg [8] l.length (fun n s8 wx => ∃ j : Nat, j + n = l.length ∧ s8 = .int .i64 j ∧ Hid (w.grownBy wx none ∧ ∀ i (h : i < l.length), i < j → farB most l[i] = false))
  case atStart => exact ⟨0, by omega, rfl, Lib.hid ⟨World.grownBy.refl w none, fun i hi h => absurd h (by omega)⟩⟩
  case round =>
    obtain ⟨j, hj, rfl, HX⟩ := hrel
    cases gk with
    | zero =>
      obtain rfl : j = l.length := by omega
      have HE : Hid (FoundB (l.any fun x => farB most x) w (.returned (.int .i64 (-1))) wr) := Lib.hid ⟨-1, rfl, by
        have : (l.any fun x => farB most x) = false := by
          rw [List.any_eq_false]
          intro b hb
          obtain ⟨i, hi, rfl⟩ := List.getElem_of_mem hb
          simp [HX.out.2 i hi hi]
        rw [this]
        rfl, ⟨by decide, by decide⟩, HX.out.1⟩
      clear HX
      go_wp2
      go_ret
      exact HE.out
    | succ k =>
      have hjn : (j : Int) < (l.length : Int) := by omega
      have hjN : j < l.length := by omega
      obtain ⟨g, o, c', e, _, _, hcu, hu⟩ := (H.out.kept HX.out.1).atI hjN
      injection e with e1 e2 e3
      subst e1 e3
      have HC := Lib.hid (farOne_any most B l[j] wr (Hhb.out.grown HX.out.1 (by simp)))
      have HV : Hid (farB most l[j] = false ∨ farB most l[j] = true) := Lib.hid (by cases farB most l[j] <;> simp)
      have HR : Hid (farB most l[j] = false → ∀ i (h : i < l.length), i < j + 1 → farB most l[i] = false) := Lib.hid (fun h i hi hl => by
        rcases Nat.lt_or_ge i j with h1 | h1
        · exact HX.out.2 i hi h1
        · obtain rfl : i = j := by omega
          exact h)
      have HN : Hid (farB most l[j] = true → (l.any fun x => farB most x) = true) := Lib.hid (fun h => List.any_eq_true.2 ⟨_, List.getElem_mem hjN, by simp [h]⟩)
      have HG := Lib.hid HX.out.1
      clear HX hu e2
      generalize farB most l[j] = b at *
      generalize l[j] = x at *
      rcases HV.out with rfl | rfl
      · go_wp2_with fail
        refine HC.out.mono ?_
        rintro e w1 ⟨rfl, hg⟩
        have HG1 := Lib.hid (HG.out.trans hg)
        clear hg
        go_wp2
        go_roundg k
        case measure => omega
        case rel => exact ⟨j + 1, by omega, by go_num, Lib.hid ⟨HG1.out, HR.out (by simp)⟩⟩
      · have HE : Hid (∀ w1, w.grownBy w1 none → FoundB (l.any fun x => farB most x) w (.returned (.int .i64 j)) w1) := Lib.hid (fun w1 hg => ⟨j, rfl, by rw [HN.out rfl]; simp, ⟨by omega, by omega⟩, hg⟩)
        go_wp2_with fail
        refine HC.out.mono ?_
        rintro e w1 ⟨rfl, hg⟩
        have HG1 := Lib.hid (HG.out.trans hg)
        clear hg
        go_wp2
        go_ret
        exact HE.out _ HG1.out
set_option maxHeartbeats 400000 in
theorem containsFar (most : Int) (B : Nat) (v : Value) (l : List (Int)) (X : Nat → Prop) (w : World) (hb : Bk w B 2 #[.int .i64 most]) (h : Sl encI X w v l) :
    Calls Tryz.prog 121 #[v, .func (.func 122) #[] #[.pointer (some ⟨B, 0, none⟩)]] w fun e w' => e = .returned (.bool (l.any fun x => farB most x)) ∧ w.grownBy w' none := by
  have HC := Lib.hid (indexFar most B v l X w hb h)
  obtain ⟨A, c, rfl, _, _⟩ := h.form
  clear h hb
  go_enter Tryz.func121, Tryz.ntmps121
  go_wp2_with fail
  refine HC.out.mono ?_
  rintro e w1 ⟨r, rfl, hr, _, hg⟩
  have HG := Lib.hid hg
  have HR := Lib.hid hr
  clear hg hr
  go_wp2
  go_ret
  exact ⟨ret_bool HR.out, HG.out⟩
set_option maxHeartbeats 400000 in
theorem within_yes (most : Int) (v : Value) (L : List (List Int)) (X : Nat → Prop) (w : World) (h : Sl (encS encI) X w v L) (hL : ∀ l ∈ L, ∀ n ∈ l, farB most n = false) :
    Calls Tryz.prog 97 #[.int .i64 most, v] w fun e w' => e = .returned (.bool true) ∧ w.grownBy w' none := by
  have HB : Hid (Bk (w.alloc (.cells #[.int .i64 most] 2)) w.heap.size 2 #[.int .i64 most]) := Lib.hid (Bk.new w _ _)
  have HG0 : Hid (w.grownBy (w.alloc (.cells #[.int .i64 most] 2)) none) := Lib.hid (World.grownBy_alloc w _ none)
  have H := Lib.hid (h.kept HG0.out)
  have HF := Lib.hid hL
  obtain ⟨A, c, rfl, hc1, hc2⟩ := h.form
  clear h hL
  go_enter Tryz.func97, Tryz.ntmps97
  go_wp2_with fail
  obtain ⟨w0, hw0⟩ : ∃ y, y = w.alloc (Obj.cells #[.int .i64 most] 2) := ⟨_, rfl⟩
  rw [← hw0] at HB HG0 H ⊢
  clear hw0
  go_loopg [9] L.length (fun g s9 wx => ∃ j : Nat, j + g = L.length ∧ s9 = .int .i64 j ∧ Hid (w0.grownBy wx none))
  case atStart => exact ⟨0, by omega, rfl, Lib.hid (World.grownBy.refl _ none)⟩
  case round =>
    obtain ⟨j, hj, rfl, HX⟩ := hrel
    cases gk with
    | zero =>
      obtain rfl : j = L.length := by omega
      go_wp2
      go_ret
      exact ⟨rfl, HG0.out.trans HX.out⟩
    | succ m =>
      have hjn : (j : Int) < (L.length : Int) := by omega
      have hjN : j < L.length := by omega
      obtain ⟨g, o, c', u, e, _, _, hcu, hu⟩ := (H.out.kept HX.out).atS hjN
      injection e with e1 e2 e3
      subst e1 e3
      have hz : (L[j].any fun x => farB most x) = false := List.any_eq_false.2 fun x hx => by simp [HF.out _ (List.getElem_mem hjN) x hx]
      have HC := Lib.hid (containsFar most w.heap.size u L[j] _ wr (HB.out.grown HX.out (by simp)) hu)
      rw [hz] at HC
      obtain ⟨A7, c7, e7, _, _⟩ := hu.form
      generalize L[j].length = n7 at e7
      subst e7
      clear hu hz e2
      go_wp2_with fail
      refine HC.out.mono ?_
      rintro e w1 ⟨rfl, hg⟩
      have HG1 : Hid (w0.grownBy w1 none) := Lib.hid (HX.out.trans hg)
      clear hg
      go_wp2
      go_roundg m
      case measure => omega
      case rel => exact ⟨j + 1, by omega, by go_num, HG1⟩
/-- A row that is too short or too long. -/
def offB (p : Par) (x : List Int) : Bool := !((x.length : Int) == p.D)
theorem off_any (p : Par) (B : Nat) (v : Value) (x : List Int) (X : Nat → Prop) (w : World) (hb : Bk w B 24 p.cells) (h : Sl encI X w v x) :
    Calls Tryz.prog 96 #[v, .pointer (some ⟨B, 0, none⟩)] w fun e w' => e = .returned (.bool (offB p x)) ∧ w.grownBy w' none := by
  obtain ⟨A, c, rfl, _, _⟩ := h.form
  have hp := hb.prule
  have hr : offB p x = ((x.length : Int) != p.D) := rfl
  rw [hr]
  clear h hb hr
  generalize x.length = n at *
  go_enter Tryz.func96, Tryz.ntmps96
  go_wp2
  go_ret
  exact ⟨rfl, World.grownBy.refl _ none⟩
set_option maxHeartbeats 400000 in
theorem indexOff (p : Par) (B : Nat) (v : Value) (l : List (List Int)) (X : Nat → Prop) (w : World) (hb : Bk w B 24 p.cells) (h : Sl (encS encI) X w v l) :
    Calls Tryz.prog 120 #[v, .func (.func 96) #[] #[.pointer (some ⟨B, 0, none⟩)]] w (FoundB (l.any fun x => offB p x) w) := by
  have Hhb := Lib.hid hb
  have H := Lib.hid h
  have hl := h.bound
  obtain ⟨A, c, rfl, _, _⟩ := h.form
  clear h hb
  go_enter Tryz.func120, Tryz.ntmps120
  go_wp2_with fail
  go_loopg [8] l.length (fun n s8 wx => ∃ j : Nat, j + n = l.length ∧ s8 = .int .i64 j ∧ Hid (w.grownBy wx none ∧ ∀ i (h : i < l.length), i < j → offB p l[i] = false))
  case atStart => exact ⟨0, by omega, rfl, Lib.hid ⟨World.grownBy.refl w none, fun i hi h => absurd h (by omega)⟩⟩
  case round =>
    obtain ⟨j, hj, rfl, HX⟩ := hrel
    cases gk with
    | zero =>
      obtain rfl : j = l.length := by omega
      have HE : Hid (FoundB (l.any fun x => offB p x) w (.returned (.int .i64 (-1))) wr) := Lib.hid ⟨-1, rfl, by
        have : (l.any fun x => offB p x) = false := by
          rw [List.any_eq_false]
          intro b hb
          obtain ⟨i, hi, rfl⟩ := List.getElem_of_mem hb
          simp [HX.out.2 i hi hi]
        rw [this]
        rfl, ⟨by decide, by decide⟩, HX.out.1⟩
      clear HX
      go_wp2
      go_ret
      exact HE.out
    | succ k =>
      have hjn : (j : Int) < (l.length : Int) := by omega
      have hjN : j < l.length := by omega
      obtain ⟨g, o, c', u, e, _, _, hcu, hu⟩ := (H.out.kept HX.out.1).atS hjN
      injection e with e1 e2 e3
      subst e1 e3
      have HC := Lib.hid (off_any p B u l[j] _ wr (Hhb.out.grown HX.out.1 (by simp)) hu)
      have HV : Hid (offB p l[j] = false ∨ offB p l[j] = true) := Lib.hid (by cases offB p l[j] <;> simp)
      have HR : Hid (offB p l[j] = false → ∀ i (h : i < l.length), i < j + 1 → offB p l[i] = false) := Lib.hid (fun h i hi hl => by
        rcases Nat.lt_or_ge i j with h1 | h1
        · exact HX.out.2 i hi h1
        · obtain rfl : i = j := by omega
          exact h)
      have HN : Hid (offB p l[j] = true → (l.any fun x => offB p x) = true) := Lib.hid (fun h => List.any_eq_true.2 ⟨_, List.getElem_mem hjN, by simp [h]⟩)
      obtain ⟨A7, c7, e7, _, _⟩ := hu.form
      generalize l[j].length = n7 at e7
      subst e7
      have HG := Lib.hid HX.out.1
      clear HX hu e2
      generalize offB p l[j] = b at *
      generalize l[j] = x at *
      rcases HV.out with rfl | rfl
      · go_wp2_with fail
        refine HC.out.mono ?_
        rintro e w1 ⟨rfl, hg⟩
        have HG1 := Lib.hid (HG.out.trans hg)
        clear hg
        go_wp2
        go_roundg k
        case measure => omega
        case rel => exact ⟨j + 1, by omega, by go_num, Lib.hid ⟨HG1.out, HR.out (by simp)⟩⟩
      · have HE : Hid (∀ w1, w.grownBy w1 none → FoundB (l.any fun x => offB p x) w (.returned (.int .i64 j)) w1) := Lib.hid (fun w1 hg => ⟨j, rfl, by rw [HN.out rfl]; simp, ⟨by omega, by omega⟩, hg⟩)
        go_wp2_with fail
        refine HC.out.mono ?_
        rintro e w1 ⟨rfl, hg⟩
        have HG1 := Lib.hid (HG.out.trans hg)
        clear hg
        go_wp2
        go_ret
        exact HE.out _ HG1.out
set_option maxHeartbeats 400000 in
theorem containsOff (p : Par) (B : Nat) (v : Value) (l : List (List Int)) (X : Nat → Prop) (w : World) (hb : Bk w B 24 p.cells) (h : Sl (encS encI) X w v l) :
    Calls Tryz.prog 95 #[v, .func (.func 96) #[] #[.pointer (some ⟨B, 0, none⟩)]] w fun e w' => e = .returned (.bool (l.any fun x => offB p x)) ∧ w.grownBy w' none := by
  have HC := Lib.hid (indexOff p B v l X w hb h)
  obtain ⟨A, c, rfl, _, _⟩ := h.form
  clear h hb
  go_enter Tryz.func95, Tryz.ntmps95
  go_wp2_with fail
  refine HC.out.mono ?_
  rintro e w1 ⟨r, rfl, hr, _, hg⟩
  have HG := Lib.hid hg
  have HR := Lib.hid hr
  clear hg hr
  go_wp2
  go_ret
  exact ⟨ret_bool HR.out, HG.out⟩
end Go.Proofs.YtiimippmihkgcaaGreatDoor

namespace Go.Proofs.YtiimippmihkgcaaGreatDoor
open Go Go.RowKit

set_option maxHeartbeats 1000000 in
theorem numbers_any (q : Int) (v : Value) (l : List Int) (X : Nat → Prop) (w : World) (h : Sl encI X w v l) (hq : U64 q) (hm : mayB q = true) (hb : l.length ≤ 100000) :
    Calls Tryz.prog 46 #[.int .u64 q, v] w (Gives encU (fun g => w.heap.size ≤ g) w (l.map (· % q))) := by
  have H := Lib.hid h
  have HB := Lib.hid hb
  have HQ := Lib.hid hq
  have HM := Lib.hid hm
  have h0 := mayB_pos hm
  obtain ⟨A, c, rfl, hc1, hc2⟩ := h.form
  clear h hb hq hm
  go_enter Tryz.func46, Tryz.ntmps46
  go_wp2_with fail
  go_loopg [5, 10] l.length (fun g s5 s10 wx => ∃ j : Nat, j + g = l.length ∧ s10 = .int .i64 j ∧ Hid (Acc encU w.heap.size 22 (fun g => w.heap.size ≤ g) wx s5 ((l.take j).map (· % q)) ∧ w.grownBy wx none))
  case atStart => exact ⟨0, by omega, rfl, Lib.hid ⟨Acc.nil _ _ _ _ _, World.grownBy.refl _ none⟩⟩
  case round =>
    obtain ⟨j, hj, rfl, HX⟩ := hrel
    cases gk with
    | zero =>
      obtain rfl : j = l.length := by omega
      have HR : Hid (Sl encU (fun g => w.heap.size ≤ g) wr u5 (l.map (· % q)) ∧ w.grownBy wr none) := Lib.hid ⟨by have := HX.out.1.sl; rwa [List.take_length] at this, HX.out.2⟩
      clear HX
      go_wp2
      go_ret
      exact ⟨_, rfl, HR.out.1, HR.out.2⟩
    | succ m =>
      have hjn : (j : Int) < (l.length : Int) := by omega
      have hjN : j < l.length := by omega
      obtain ⟨hacc, hg⟩ := HX.out
      obtain ⟨g, o, c', e, _, _, hcu, hi⟩ := (H.out.kept hg).atI hjN
      injection e with e1 e2 e3
      subst e1 e3
      have HSN : Hid ((l.take (j + 1)).map (· % q) = (l.take j).map (· % q) ++ [l[j] % q]) := Lib.hid (by rw [List.take_succ_eq_append_getElem hjN, List.map_append]; rfl)
      have HU : Hid (U64 (l[j] % q)) := Lib.hid (by have := HQ.out; exact ⟨Int.emod_nonneg _ (by omega), Int.lt_trans (Int.emod_lt_of_pos _ h0) (by obtain ⟨a, b⟩ := this; omega)⟩)
      have HC := Lib.hid (fnum_any l[j] q wr hi HQ.out HM.out)
      have HAC := Lib.hid hacc
      have HG := Lib.hid hg
      have HLB : Hid ((((l.take j).map (· % q)).length + 1) * 8 ≤ 140737488355328) := Lib.hid (by have := HB.out; simp; omega)
      clear hacc hg HX hi e2
      generalize l[j] = y at *
      obtain ⟨z, hz⟩ : ∃ z, z = y % q := ⟨_, rfl⟩
      rw [← hz] at HSN HU HC
      clear hz
      generalize l.length = n at *
      go_wp2_with fail
      refine HC.out.mono ?_
      rintro e w1 ⟨rfl, hg⟩
      have HG1 : Hid (w.grownBy w1 none) := Lib.hid (HG.out.trans hg)
      have HAC1 := Lib.hid (HAC.out.kept hg)
      clear hg
      go_wp2_with (at_builtin; refine wpList_pushG rfl (.tmp 14) (.tmp 18) rfl (E := encU) (y := z) el_u64 HG1.out HAC1.out (fun _ h => h) ⟨rfl, HU.out⟩ HLB.out rfl rfl ?_)
      intro v2 w2 hacc2 hg2 hgo
      have HFIN : Hid (Acc encU w.heap.size 22 (fun g => w.heap.size ≤ g) w2 v2 ((l.take (j + 1)).map (· % q)) ∧ w.grownBy w2 none) := Lib.hid ⟨by rw [HSN.out]; simpa using hacc2, hg2⟩
      clear hacc2 hg2 hgo
      go_wp2_with fail
      go_roundg m
      case measure => omega
      case rel => exact ⟨j + 1, by omega, by go_num, HFIN⟩
set_option maxHeartbeats 1000000 in
theorem fmay_yes (p : Par) (vW vB : Value) (W : List (List Int)) (B : List Int) (X Y : Nat → Prop) (w : World) (hm : mayP p = true) (hW : Sl (encS encI) X w vW W) (hB : Sl encI Y w vB B) (lW : (W.length : Int) = p.K) (lB : (B.length : Int) = p.K) (hr : ∀ l ∈ W, (l.length : Int) = p.D) (f1 : ∀ l ∈ W, ∀ n ∈ l, farB p.M n = false) (f2 : ∀ n ∈ B, farB p.M n = false) :
    Calls Tryz.prog 45 #[p.v, .agg #[vW, vB]] w fun e w' => e = .returned (.bool true) ∧ w.grownBy w' none := by
  obtain ⟨w0, hw0⟩ : ∃ y, y = (w.alloc (.cells p.cells 24)).alloc (.cells #[vW, vB] 30) := ⟨_, rfl⟩
  have HG0 : Hid (w.grownBy w0 none) := Lib.hid (by rw [hw0]; exact grown_two)
  have HBP : Hid (Bk w0 w.heap.size 24 p.cells) := Lib.hid (by rw [hw0]; exact (Bk.new w _ _).alloc _)
  have HBM : Hid (Bk w0 (w.heap.size + 1) 30 #[vW, vB]) := Lib.hid (by
    rw [hw0]
    have h := Bk.new (w.alloc (Obj.cells p.cells 24)) 30 #[vW, vB]
    rw [World.size_alloc] at h
    exact h)
  have HW := Lib.hid (hW.kept HG0.out)
  have HV := Lib.hid (hB.kept HG0.out)
  have hz : (W.any fun x => offB p x) = false := List.any_eq_false.2 fun x hx => by simp [offB, hr x hx]
  have HOF := Lib.hid (fun (w' : World) (hg : w0.grownBy w' none) => containsOff p w.heap.size vW W X w' (HBP.out.grown hg (by simp)) (HW.out.kept hg))
  have HW1 := Lib.hid (fun (w' : World) (hg : w0.grownBy w' none) => within_yes p.M vW W X w' (HW.out.kept hg) f1)
  have HW2 := Lib.hid (fun (v : Value) (w' : World) (h : Sl (encS encI) TT w' v [B]) => within_yes p.M v [B] TT w' h (fun l hl => by rw [List.mem_singleton.1 hl]; exact f2))
  have HFIT := Lib.hid (fun w' => fit_yes p w' hm)
  rw [hz] at HOF
  obtain ⟨A1, c1, rfl, _, _⟩ := hW.form
  obtain ⟨A2, c2, rfl, _, hc2⟩ := hB.form
  have b1 : ((W.length : Int) != p.K) = false := by simp [lW]
  have b2 : ((B.length : Int) != p.K) = false := by simp [lB]
  clear hW hB hr f1 f2 hz lW lB hm
  generalize hWn : W.length = nW at *
  generalize hBn : B.length = nB at *
  clear hWn
  go_enter Tryz.func45, Tryz.ntmps45
  go_wp2_with fail
  rw [← hw0]
  refine (HFIT.out _).mono ?_
  rintro e w1 ⟨rfl, hg⟩
  have HG1 : Hid (w0.grownBy w1 none) := Lib.hid hg
  have hp1 := (HBP.out.grown hg (by simp)).prule
  have m0 := (HBM.out.grown hg (by simp)).cell 0
  have m1 := (HBM.out.grown hg (by simp)).cell 1
  simp at m0 m1
  clear hg hw0
  go_wp2_with fail
  refine (HOF.out _ HG1.out).mono ?_
  rintro e w2 ⟨rfl, hg⟩
  have HG2 : Hid (w0.grownBy w2 none) := Lib.hid (HG1.out.trans hg)
  have hp2 := (HBP.out.grown HG2.out (by simp)).prule
  have m2 := (HBM.out.grown HG2.out (by simp)).cell 0
  have m3 := (HBM.out.grown HG2.out (by simp)).cell 1
  simp at m2 m3
  clear hg hp1 m0 m1
  go_wp2_with fail
  refine (HW1.out _ HG2.out).mono ?_
  rintro e w3 ⟨rfl, hg⟩
  have HG3 : Hid (w0.grownBy w3 none) := Lib.hid (HG2.out.trans hg)
  have hp3 := (HBP.out.grown HG3.out (by simp)).prule
  have m4 := (HBM.out.grown HG3.out (by simp)).cell 1
  simp at m4
  have HSL : Hid (Sl (encS encI) TT (w3.alloc (.cells #[.slice A2 nB c2] 25)) (.slice (some ⟨w3.heap.size, 0, none⟩) 1 1) [B]) := Lib.hid (Sl.build [[.slice A2 nB c2]] rfl ⟨⟨_, rfl, (HV.out.kept HG3.out).more fun _ _ _ => trivial⟩, trivial⟩ rfl (by decide))
  clear hg hp2 m2 m3
  go_wp2_with fail
  refine (HW2.out _ _ HSL.out).mono ?_
  rintro e w4 ⟨rfl, hg⟩
  have HG4 : Hid (w.grownBy w4 none) := Lib.hid (HG0.out.trans (HG3.out.trans ((World.grownBy_alloc _ _ none).trans hg)))
  clear hg
  go_wp2
  go_ret
  exact ⟨rfl, HG4.out⟩
/-- A model's secrets, row by row. -/
def secL (q : Int) (W : List (List Int)) (B : List Int) (k : Nat) : List Int := ((List.range k).map fun i => (W[i]?.getD []).map (· % q) ++ [(B[i]?.getD 0) % q]).flatten
theorem secL_succ (q : Int) (W : List (List Int)) (B : List Int) (k : Nat) : secL q W B (k + 1) = secL q W B k ++ (W[k]?.getD []).map (· % q) ++ [(B[k]?.getD 0) % q] := by
  simp [secL, List.range_succ]
theorem secL_len (q : Int) (W : List (List Int)) (B : List Int) (d : Nat) (h : ∀ l ∈ W, l.length = d) : ∀ k, k ≤ W.length → (secL q W B k).length = k * (d + 1)
  | 0, _ => by simp [secL]
  | k + 1, hk => by
    rw [secL_succ, List.length_append, List.length_append, secL_len q W B d h k (by omega), List.getElem?_eq_getElem (by omega)]
    have := h _ (List.getElem_mem (show k < W.length by omega))
    simp [this, Nat.add_mul]
    omega
/-- What lies in the secrets of the model that the law draws. -/
theorem who_secrets {p : Par} (hm : mayP p = true) (l : List Int) : secL p.Q (whoW p l) (whoB p l) p.K.toNat = whoS p l := by
  have hsec := secretsI_eq hm
  have hlen : ∀ x ∈ whoW p l, x.length = p.D.toNat := fun x hx => by
    obtain ⟨k, _, rfl⟩ := List.mem_map.1 hx
    simp
  have key : ∀ k, k ≤ p.K.toNat → secL p.Q (whoW p l) (whoB p l) k = (List.range (k * (p.D.toNat + 1))).map fun a => drw l p.M a % p.Q := by
    intro k
    induction k with
    | zero => intro _; simp [secL]
    | succ k ih =>
      intro hk
      rw [secL_succ, ih (by omega), Nat.add_mul, Nat.one_mul, ← Nat.add_assoc, List.range_succ, List.map_append, List.range_add, List.map_append]
      have hkr : (List.range p.K.toNat)[k]? = some k := List.getElem?_range (by omega)
      congr 1
      · congr 1
        simp [whoW, hkr, Function.comp_def]
      · simp [whoB, hkr]
  rw [key _ (Nat.le_refl _)]
  unfold whoS
  rw [hsec, Int.toNat_natCast]
set_option maxHeartbeats 1000000 in
theorem values_any (v : Value) (l : List (Int × Int)) (X : Nat → Prop) (w : World) (h : Sl encP X w v l) (hb : l.length ≤ 100000) :
    Calls Tryz.prog 20 #[v] w (Gives encU (fun g => w.heap.size ≤ g) w (l.map (·.1))) := by
  have H := Lib.hid h
  have HB := Lib.hid hb
  obtain ⟨A, c, rfl, hc1, hc2⟩ := h.form
  clear h hb
  go_enter Tryz.func20, Tryz.ntmps20
  go_wp2_with fail
  go_loopg [3, 4] l.length (fun g s3 s4 wx => ∃ j : Nat, j + g = l.length ∧ s4 = .int .i64 j ∧ Hid (Acc encU w.heap.size 22 (fun g => w.heap.size ≤ g) wx s3 ((l.take j).map (·.1)) ∧ w.grownBy wx none))
  case atStart => exact ⟨0, by omega, rfl, Lib.hid ⟨Acc.nil _ _ _ _ _, World.grownBy.refl _ none⟩⟩
  case round =>
    obtain ⟨j, hj, rfl, HX⟩ := hrel
    cases gk with
    | zero =>
      obtain rfl : j = l.length := by omega
      have HR : Hid (Sl encU (fun g => w.heap.size ≤ g) wr u3 (l.map (·.1)) ∧ w.grownBy wr none) := Lib.hid ⟨by have := HX.out.1.sl; rwa [List.take_length] at this, HX.out.2⟩
      clear HX
      go_wp2
      go_ret
      exact ⟨_, rfl, HR.out.1, HR.out.2⟩
    | succ m =>
      have hjn : (j : Int) < (l.length : Int) := by omega
      have hjN : j < l.length := by omega
      obtain ⟨hacc, hg⟩ := HX.out
      obtain ⟨g, o, c', e, _, _, hcu, _, hu1, _⟩ := (H.out.kept hg).atP hjN
      injection e with e1 e2 e3
      subst e1 e3
      have HSN : Hid ((l.take (j + 1)).map (·.1) = (l.take j).map (·.1) ++ [l[j].1]) := Lib.hid (by rw [List.take_succ_eq_append_getElem hjN, List.map_append]; rfl)
      have HU : Hid (U64 l[j].1) := Lib.hid hu1
      have HAC := Lib.hid hacc
      have HG := Lib.hid hg
      have HLB : Hid ((((l.take j).map (·.1)).length + 1) * 8 ≤ 140737488355328) := Lib.hid (by have := HB.out; simp; omega)
      clear hacc hg HX hu1 e2
      generalize l[j] = yy at *
      obtain ⟨y, yb⟩ := yy
      simp only at HSN HU hcu
      generalize l.length = n at *
      go_wp2_with (at_builtin; refine wpList_pushG rfl (.tmp 11) (.tmp 17) rfl (E := encU) (y := y) el_u64 HG.out HAC.out (fun _ h => h) ⟨rfl, HU.out⟩ HLB.out rfl rfl ?_)
      intro v2 w2 hacc2 hg2 hgo
      have HFIN : Hid (Acc encU w.heap.size 22 (fun g => w.heap.size ≤ g) w2 v2 ((l.take (j + 1)).map (·.1)) ∧ w.grownBy w2 none) := Lib.hid ⟨by rw [HSN.out]; simpa using hacc2, hg2⟩
      clear hacc2 hg2 hgo
      go_wp2_with fail
      go_roundg m
      case measure => omega
      case rel => exact ⟨j + 1, by omega, by go_num, HFIN⟩
set_option maxHeartbeats 1000000 in
theorem picked_any (v va : Value) (ls : List (List (Int × Int))) (at_ : List Int) (X Y : Nat → Prop) (w : World) (h : Sl (encS encP) X w v ls) (ha : Sl encI Y w va at_) (hi : ∀ i ∈ at_, 1 ≤ i ∧ i ≤ (ls.length : Int)) (hb : at_.length ≤ 100000) :
    Calls Tryz.prog 18 #[v, va] w (Gives (encS encP) TT w (at_.map fun i => ls[(i - 1).toNat]?.getD [])) := by
  have H := Lib.hid h
  have HA := Lib.hid ha
  have HI := Lib.hid hi
  have HB := Lib.hid hb
  obtain ⟨A, c, rfl, hc1, hc2⟩ := h.form
  obtain ⟨Aa, ca, rfl, hca1, hca2⟩ := ha.form
  clear h ha hi hb
  go_enter Tryz.func18, Tryz.ntmps18
  go_wp2_with fail
  go_loopg [5, 6] at_.length (fun g s5 s6 wx => ∃ j : Nat, j + g = at_.length ∧ s6 = .int .i64 j ∧ Hid (Acc (encS encP) w.heap.size 51 TT wx s5 ((at_.take j).map fun i => ls[(i - 1).toNat]?.getD []) ∧ w.grownBy wx none))
  case atStart => exact ⟨0, by omega, rfl, Lib.hid ⟨Acc.nil _ _ _ _ _, World.grownBy.refl _ none⟩⟩
  case round =>
    obtain ⟨j, hj, rfl, HX⟩ := hrel
    cases gk with
    | zero =>
      obtain rfl : j = at_.length := by omega
      have HR : Hid (Sl (encS encP) TT wr u5 (at_.map fun i => ls[(i - 1).toNat]?.getD []) ∧ w.grownBy wr none) := Lib.hid ⟨by have := HX.out.1.sl; rwa [List.take_length] at this, HX.out.2⟩
      clear HX
      go_wp2
      go_ret
      exact ⟨_, rfl, HR.out.1, HR.out.2⟩
    | succ m =>
      have hjn : (j : Int) < (at_.length : Int) := by omega
      have hjN : j < at_.length := by omega
      obtain ⟨hacc, hg⟩ := HX.out
      obtain ⟨ga, oa, ca', ea, _, _, hca, _⟩ := (HA.out.kept hg).atI hjN
      injection ea with ea1 ea2 ea3
      subst ea1 ea3
      obtain ⟨i1, i2⟩ := HI.out _ (List.getElem_mem hjN)
      have HSN : Hid ((at_.take (j + 1)).map (fun i => ls[(i - 1).toNat]?.getD []) = (at_.take j).map (fun i => ls[(i - 1).toNat]?.getD []) ++ [ls[(at_[j] - 1).toNat]?.getD []]) := Lib.hid (by rw [List.take_succ_eq_append_getElem hjN, List.map_append]; rfl)
      have HLB : Hid ((((at_.take j).map fun i => ls[(i - 1).toNat]?.getD []).length + 1) * 24 ≤ 140737488355328) := Lib.hid (by have := HB.out; simp; omega)
      obtain ⟨k, hk⟩ : ∃ k : Nat, at_[j] = (k : Int) + 1 := ⟨(at_[j] - 1).toNat, by omega⟩
      have hkN : k < ls.length := by omega
      have hkI : (k : Int) < (ls.length : Int) := by omega
      have hkt : (at_[j] - 1).toNat = k := by omega
      rw [hkt, List.getElem?_eq_getElem hkN] at HSN
      obtain ⟨g, o, c', u, e, _, _, hcu0, hsu⟩ := H.out.atS hkN
      injection e with e1 e2 e3
      subst e1 e3
      have hcu : wr.cell? ⟨g, o + k, none⟩ = some u := cell_kept hcu0 hg (by simp)
      rw [hk] at hca
      have hk1 : IntKind.i64.wrap (k : Int) = (k : Int) := IntWalk.i64_in _ (by omega)
      have hk0 : (0 : Int) ≤ (k : Int) := by omega
      obtain ⟨A2, c3, e3, _, _⟩ := hsu.form
      subst e3
      have HREP : Hid ((encS encP).rep (fun g => TT g ∧ some g ≠ u5.ownBlock) wr [.slice A2 ls[k].length c3] ls[k]) := Lib.hid ⟨_, rfl, (hsu.more fun g hlt hX => ⟨trivial, fun e => by have := (hacc.lt g e.symm).1; omega⟩).kept hg⟩
      have HAC := Lib.hid hacc
      have HG := Lib.hid hg
      clear hacc hg HX hsu hcu0 hk hkt i1 i2 e2 ea2
      generalize ls[k] = y at *
      generalize y.length = ny at *
      go_wp2_with (at_builtin; refine wpList_pushG rfl (.tmp 13) (.tmp 22) rfl (E := encS encP) (y := y) el_pairs HG.out HAC.out (fun _ _ => trivial) HREP.out HLB.out rfl rfl ?_)
      intro v2 w2 hacc2 hg2 hgo
      have HFIN : Hid (Acc (encS encP) w.heap.size 51 TT w2 v2 ((at_.take (j + 1)).map fun i => ls[(i - 1).toNat]?.getD []) ∧ w.grownBy w2 none) := Lib.hid ⟨by rw [HSN.out]; simpa using hacc2, hg2⟩
      clear hacc2 hg2 hgo
      go_wp2_with fail
      go_roundg m
      case measure => omega
      case rel => exact ⟨j + 1, by omega, by go_num, HFIN⟩
end Go.Proofs.YtiimippmihkgcaaGreatDoor

namespace Go.Proofs.YtiimippmihkgcaaGreatDoor
open Go Go.RowKit

/-- Where the worlds stand while a row is put to the secrets. -/
def secLt (w0 : World) (N : Nat) (u0 : Value) (xs ys : List Int) (z : Int) : Lt where
  C vs w := w0.grownBy w none ∧ N ≤ w.heap.size ∧ match vs with
    | [] => Acc encU w0.heap.size 22 (fun g => w0.heap.size ≤ g) w u0 xs
    | [u] => Acc encU w0.heap.size 22 (fun g => w0.heap.size ≤ g) w u (xs ++ ys)
    | [_, u] => Acc encU w0.heap.size 22 (fun g => w0.heap.size ≤ g) w u (xs ++ ys ++ [z])
    | _ => False
  R q w w' := match q with
    | 0 => w.grownBy w' u0.ownBlock
    | _ => True
  g := fun {vs w w'} ⟨h1, h2, h3⟩ hg => ⟨h1.trans hg, Nat.le_trans h2 hg.size, by
    match vs, h3 with
    | [], h3 => exact h3.kept hg
    | [_], h3 => exact h3.kept hg
    | [_, _], h3 => exact h3.kept hg⟩
def secN {w0 : World} {N0 : Nat} {u0 : Value} {xs ys0 : List Int} {z : Int} (N : Nat) (ys : List Int) : Qv (secLt w0 N0 u0 xs ys0 z) where
  p vs v w := vs = [] → Sl encU (fun g => N ≤ g) w v ys
  fr := 0
  st := fun h hg e => (h e).kept hg
  sr := fun _ _ _ _ e => absurd e (by simp)
def secZ {w0 : World} {N0 : Nat} {u0 : Value} {xs ys0 : List Int} {z0 : Int} (N : Nat) (z : Int) (hO : ∀ g, u0.ownBlock = some g → g < N) : Qv (secLt w0 N0 u0 xs ys0 z0) where
  p vs v w := vs.length ≤ 1 → BlkQ N 22 (.int .u64 z) v w
  fr := 0
  st := fun h hg e => by
    obtain ⟨b, e1, hb, hk⟩ := h e
    exact ⟨b, e1, hb, hk.grown hg (by simp)⟩
  sr := fun {vs u v w w'} _ _ hR h e => by
    have h0 : vs = [] := by simpa using e
    subst h0
    obtain ⟨b, e1, hb, hk⟩ := h (by simp)
    have hR : w.grownBy w' u0.ownBlock := hR
    exact ⟨b, e1, hb, hk.grown hR (fun e => by have := hO b e.symm; omega)⟩
theorem acc_step {w0 w w' : World} {v : Value} {xs : List Int} (h1 : w0.grownBy w none) (h3 : Acc encU w0.heap.size 22 (fun g => w0.heap.size ≤ g) w v xs) (hg : w.grownBy w' v.ownBlock) : w0.grownBy w' none := grown_up h1 hg (fun k e => (h3.lt k e).1)
set_option maxRecDepth 100000 in
set_option maxHeartbeats 2000000 in
theorem fsecrets_any (p : Par) (vW vB : Value) (W : List (List Int)) (B : List Int) (X Y : Nat → Prop) (w : World) (hm : mayP p = true) (hp : p.ok) (hW : Sl (encS encI) X w vW W) (hB : Sl encI Y w vB B) (lW : (W.length : Int) = p.K) (lB : (B.length : Int) = p.K) (hr : ∀ l ∈ W, (l.length : Int) = p.D) (f1 : ∀ l ∈ W, ∀ n ∈ l, farB p.M n = false) (f2 : ∀ n ∈ B, farB p.M n = false) :
    Calls Tryz.prog 9 #[p.v, .agg #[vW, vB]] w (Gives encU (fun g => w.heap.size ≤ g) w (secL p.Q W B W.length)) := by
  obtain ⟨hq, _, _, _, _, _, _, _, _, _, _, _⟩ := may_apart hm
  obtain ⟨k1, k2, d1, d2, _, _, _, _, _, _⟩ := may_sizes hm
  obtain ⟨w0, hw0⟩ : ∃ y, y = (w.alloc (.cells p.cells 24)).alloc (.cells #[vW, vB] 30) := ⟨_, rfl⟩
  have HG0 : Hid (w.grownBy w0 none) := Lib.hid (by rw [hw0]; exact grown_two)
  have HBP : Hid (Bk w0 w.heap.size 24 p.cells) := Lib.hid (by rw [hw0]; exact (Bk.new w _ _).alloc _)
  have HBM : Hid (Bk w0 (w.heap.size + 1) 30 #[vW, vB]) := Lib.hid (by
    rw [hw0]
    have h := Bk.new (w.alloc (Obj.cells p.cells 24)) 30 #[vW, vB]
    rw [World.size_alloc] at h
    exact h)
  have HW := Lib.hid (hW.kept HG0.out)
  have HV := Lib.hid (hB.kept HG0.out)
  have HMY := Lib.hid (fun (w' : World) (hg : w0.grownBy w' none) => fmay_yes p vW vB W B X Y w' hm (HW.out.kept hg) (HV.out.kept hg) lW lB hr f1 f2)
  have HQ := Lib.hid hq
  have HPO := Lib.hid hp
  have HWL : Hid (W.length ≤ 2 ∧ W.length = B.length) := Lib.hid ⟨by omega, by omega⟩
  have HRL : Hid (∀ l ∈ W, l.length = p.D.toNat) := Lib.hid (fun l hl => by have := hr l hl; omega)
  have HDD : Hid (p.D.toNat ≤ 4) := Lib.hid (by omega)
  obtain ⟨A1, c1, rfl, hW1, _⟩ := hW.form
  obtain ⟨A2, cB, rfl, hB1, _⟩ := hB.form
  clear hW hB hr f1 f2 lW lB hm hq hp k1 k2 d1 d2
  go_enter Tryz.func9, Tryz.ntmps9
  go_wp2_with fail
  rw [← hw0]
  have hp0 := HBP.out.prule
  have m0 := HBM.out.cell 0
  have m1 := HBM.out.cell 1
  simp at m0 m1
  clear hw0
  go_wp2_with fail
  refine (HMY.out _ (World.grownBy.refl _ none)).mono ?_
  rintro e w1 ⟨rfl, hg⟩
  have HG1 : Hid (w0.grownBy w1 none) := Lib.hid hg
  have m2 := (HBM.out.grown hg (by simp)).cell 0
  simp at m2
  clear hg hp0 m0 m1
  go_wp2_with fail
  go_loopg [5, 15] W.length (fun g s5 s15 wx => ∃ j : Nat, j + g = W.length ∧ s15 = .int .i64 j ∧ Hid (Acc encU w0.heap.size 22 (fun g => w0.heap.size ≤ g) wx s5 (secL p.Q W B j) ∧ w0.grownBy wx none))
  case atStart => exact ⟨0, by omega, rfl, Lib.hid ⟨by simpa [secL] using Acc.nil _ _ _ _ _, HG1.out⟩⟩
  case round =>
    obtain ⟨j, hj, rfl, HX⟩ := hrel
    cases gk with
    | zero =>
      obtain rfl : j = W.length := by omega
      have HR : Hid (Sl encU (fun g => w.heap.size ≤ g) wr u5 (secL p.Q W B W.length) ∧ w.grownBy wr none) := Lib.hid ⟨HX.out.1.sl.more fun g _ h => Nat.le_trans HG0.out.size h, HG0.out.trans HX.out.2⟩
      clear HX
      go_wp2
      go_ret
      exact ⟨_, rfl, HR.out.1, HR.out.2⟩
    | succ m =>
      have hjn : (j : Int) < (W.length : Int) := by omega
      have hjN : j < W.length := by omega
      have hjB : j < B.length := by have := HWL.out.2; omega
      have hjBI : (j : Int) < (B.length : Int) := by omega
      obtain ⟨hacc, hg⟩ := HX.out
      obtain ⟨gW, oW, cW, u, e, _, _, hcu, hsu⟩ := (HW.out.kept hg).atS hjN
      injection e with e1 e2 e3
      subst e1 e3
      obtain ⟨gB, oB, cB', e, _, _, hcb0, hib⟩ := HV.out.atI hjB
      injection e with e4 e5 e6
      subst e4 e6
      obtain ⟨Ar, cr, er, _, _⟩ := hsu.form
      have hrl := HRL.out _ (List.getElem_mem hjN)
      have HSN := Lib.hid (secL_succ p.Q W B j)
      have HLN := Lib.hid (secL_len p.Q W B p.D.toNat HRL.out j (by omega))
      rw [List.getElem?_eq_getElem hjN, List.getElem?_eq_getElem hjB] at HSN
      obtain ⟨row, hrow⟩ : ∃ y, y = W[j] := ⟨_, rfl⟩
      obtain ⟨b, hb⟩ : ∃ y, y = B[j] := ⟨_, rfl⟩
      rw [← hrow] at hsu er hrl HSN
      rw [← hb] at hcb0 hib HSN
      obtain ⟨nr, hnr⟩ : ∃ y, y = row.length := ⟨_, rfl⟩
      rw [← hnr] at er hrl
      subst er
      obtain ⟨ys, hys⟩ : ∃ y, y = row.map (· % p.Q) := ⟨_, rfl⟩
      obtain ⟨z, hz⟩ : ∃ y, y = b % p.Q := ⟨_, rfl⟩
      simp only [Option.getD_some] at HSN
      rw [← hys, ← hz] at HSN
      obtain ⟨xs, hxs⟩ : ∃ y, y = secL p.Q W B j := ⟨_, rfl⟩
      rw [← hxs] at HSN HLN hacc
      have hyl : ys.length ≤ 4 := by rw [hys, List.length_map, ← hnr, hrl]; exact HDD.out
      have hxl : xs.length ≤ 1000 := by
        rw [HLN.out]
        have := HWL.out.1
        have := HDD.out
        have h4 : j * (p.D.toNat + 1) ≤ 2 * 5 := Nat.mul_le_mul (by omega) (by omega)
        omega
      obtain ⟨N, hN⟩ : ∃ y, y = wr.heap.size := ⟨_, rfl⟩
      have HSU : Hid (∀ w', w0.grownBy w' none → N ≤ w'.heap.size → ∃ Z, Sl encI Z w' (.slice Ar nr cr) row) := Lib.hid (by
        obtain ⟨gW2, oW2, cW2, u2, e', _, _, hcu2, hsu2⟩ := HW.out.atS hjN
        injection e' with e1' e2' e3'
        injection e1' with e1'
        injection e1' with e7 e8
        subst e7 e8
        have hcu3 : wr.cell? ⟨gW, oW + j, none⟩ = some u2 := cell_kept hcu2 hg (by simp)
        have hu2 : u2 = .slice Ar nr cr := by rw [hcu] at hcu3; injection hcu3 with h; exact h.symm
        intro w' hg' _
        rw [hrow, ← hu2]
        exact ⟨_, hsu2.kept hg'⟩)
      have HZ : Hid (U64 z) := Lib.hid (by rw [hz]; have h0 := mayB_pos HQ.out; have := HPO.out.Q; exact ⟨Int.emod_nonneg _ (by omega), Int.lt_trans (Int.emod_lt_of_pos _ h0) (by obtain ⟨a, b⟩ := this; omega)⟩)
      have HNU := Lib.hid (fun w' => fnum_any b p.Q w' hib HPO.out.Q HQ.out)
      rw [← hz] at HNU
      obtain ⟨Au, nu, cu, eu⟩ := hacc.sl.shape
      subst eu
      have HC0 : Hid ((secLt w0 N (.slice Au nu cu) xs ys z).C [] wr.drew) := Lib.hid ⟨hg.trans (grown_drewN' _ 1), by rw [hN]; exact Nat.le_refl _, hacc.kept (grown_drewN' _ 1)⟩
      have HLD : Hid (∀ vs w', (secLt w0 N (.slice Au nu cu) xs ys z).C vs w' → w'.cell? ⟨w.heap.size, 1, none⟩ = some (.int .u64 p.Q) ∧ w'.cell? ⟨w.heap.size + 1, 1, none⟩ = some (.slice (some ⟨gB, oB, none⟩) B.length cB) ∧ w'.cell? ⟨gB, oB + j, none⟩ = some (.int .i64 b)) := Lib.hid (fun vs w' hC => ⟨(HBP.out.grown hC.1 (by simp)).cell 1, (HBM.out.grown hC.1 (by simp)).cell 1, cell_kept hcb0 hC.1 (by simp)⟩)
      have HSZ : Hid (∀ vs w', (secLt w0 N (.slice Au nu cu) xs ys z).C vs w' → N ≤ w'.heap.size) := Lib.hid (fun vs w' hC => hC.2.1)
      have HNUM : Hid (∀ vs w', (secLt w0 N (.slice Au nu cu) xs ys z).C vs w' → Calls Tryz.prog 46 #[.int .u64 p.Q, .slice Ar nr cr] w' (Gives encU (fun g => w'.heap.size ≤ g) w' ys)) := Lib.hid (fun vs w' hC => by
        obtain ⟨Z, hZ⟩ := HSU.out w' hC.1 hC.2.1
        rw [hys]
        exact numbers_any p.Q _ row Z w' hZ HPO.out.Q HQ.out (by have := HDD.out; omega))
      have hON : Hid (∀ g, (Value.slice Au nu cu).ownBlock = some g → g < N) := Lib.hid (fun g e => by rw [hN]; exact (hacc.lt g e).2)
      have HLB1 : Hid ((xs.length + ys.length) * 8 ≤ 140737488355328) := Lib.hid (by omega)
      have HLB2 : Hid (((xs ++ ys).length + 1) * 8 ≤ 140737488355328) := Lib.hid (by rw [List.length_append]; omega)
      have HSTEP : Hid (∀ (w' w3 : World) (v : Value) {l : List Int}, w0.grownBy w' none → Acc encU w0.heap.size 22 (fun g => w0.heap.size ≤ g) w' v l → w'.grownBy w3 v.ownBlock → w0.grownBy w3 none) := Lib.hid (fun w' w3 v l h1 h3 hg => acc_step h1 h3 hg)
      have hcu' := hcu
      clear hacc hg HX hsu hcb0 hib hrow hb hnr hys hz hxs hyl hxl e2 e5 hN hrl HLN
      go_upto_region 7 with (fail)
      clear hcu hcu'
      generalize hnB : B.length = nB at *
      refine wp_region_late (secLt w0 N (.slice Au nu cu) xs ys z) [5, 15] 16 (by kernel_rfl) (by kernel_rfl) (by kernel_rfl) HC0.out ?_
      -- op 0 (slot 20): move
      refine LateR.mono (Qv.eq (.slice Au nu cu)) [] (by kernel_rfl) (by rfl) rfl (fun vs w' hC => ?_) ?_
      · refine askl_do rfl fun K hK => ?_
        go_simp
        exact hK _ _ rfl ⟨rfl, World.grownBy.refl _ none⟩
      -- op 1 (slot 21): fieldAddr
      refine LateR.mono (Qv.eq (.pointer (some ⟨w.heap.size, 1, none⟩))) [] (by kernel_rfl) (by rfl) rfl (fun vs w' hC => ?_) ?_
      · refine askl_do rfl fun K hK => ?_
        go_simp
        exact hK _ _ rfl ⟨rfl, World.grownBy.refl _ none⟩
      -- op 2 (slot 22): load
      refine LateR.mono (Qv.eq (.int .u64 p.Q)) [(1, 21)] (by kernel_rfl) (by rfl) rfl (fun vs w' hC => ?_) ?_
      · rintro _ rfl
        refine askl_do rfl fun K hK => ?_
        obtain ⟨q0, q1, q2⟩ := HLD.out vs w' hC
        go_simp
        exact hK _ _ rfl ⟨rfl, World.grownBy.refl _ none⟩
      -- op 3 (slot 23): move
      refine LateR.mono (Qv.eq (.slice Ar nr cr)) [] (by kernel_rfl) (by rfl) rfl (fun vs w' hC => ?_) ?_
      · refine askl_do rfl fun K hK => ?_
        go_simp
        exact hK _ _ rfl ⟨rfl, World.grownBy.refl _ none⟩
      -- op 4 (slot 24): call
      refine LateR.mono (secN N ys) [(2, 22), (3, 23)] (by kernel_rfl) (by rfl) rfl (fun vs w' hC => ?_) ?_
      · rintro _ rfl
        rintro _ rfl
        refine askl_do rfl fun K hK => ?_
        go_simp
        have hsz := HSZ.out vs w' hC
        refine (HNUM.out vs w' hC).mono ?_
        rintro e w3 ⟨v3, rfl, hs3, hg3⟩
        exact hK _ _ rfl ⟨fun _ => hs3.more fun g _ hg => Nat.le_trans hsz hg, hg3⟩
      -- op 5 (slot 25): call
      refine LateR.turn 0 [(0, 20), (4, 24)] (by kernel_rfl) rfl (fun vs w' hl hC => ?_) ?_
      · rintro _ rfl
        intro x24 h24
        have h24 : vs = [] → Sl encU (fun g => N ≤ g) w' x24 ys := h24
        refine askl_do rfl fun K hK => ?_
        obtain rfl : vs = [] := List.eq_nil_of_length_eq_zero hl
        obtain ⟨g1, g2, g3⟩ := hC
        obtain ⟨A24, c24, rfl, _, _⟩ := (h24 rfl).form
        refine apps_core (E := encU) el_u64 g3 (h24 rfl) (fun _ _ h => h) HLB1.out g1.size (fun g hg => Nat.le_trans g1.size hg) (.tmp 20) (.tmp 24) rfl rfl rfl ?_
        intro v3 w3 ha hgr hm
        exact hK _ _ rfl ⟨hgr, HSTEP.out w' w3 (.slice Au nu cu) g1 g3 hgr, Nat.le_trans g2 hgr.size, ha⟩
      -- op 6 (slot 26): fieldAddr
      refine LateR.mono (Qv.eq (.pointer (some ⟨w.heap.size + 1, 1, none⟩))) [] (by kernel_rfl) (by rfl) rfl (fun vs w' hC => ?_) ?_
      · refine askl_do rfl fun K hK => ?_
        go_simp
        exact hK _ _ rfl ⟨rfl, World.grownBy.refl _ none⟩
      -- op 7 (slot 27): load
      refine LateR.mono (Qv.eq (.slice (some ⟨gB, oB, none⟩) nB cB)) [(6, 26)] (by kernel_rfl) (by rfl) rfl (fun vs w' hC => ?_) ?_
      · rintro _ rfl
        refine askl_do rfl fun K hK => ?_
        obtain ⟨q0, q1, q2⟩ := HLD.out vs w' hC
        go_simp
        exact hK _ _ rfl ⟨rfl, World.grownBy.refl _ none⟩
      -- op 8 (slot 28): move
      refine LateR.mono (Qv.eq (.int .i64 (j : Int))) [] (by kernel_rfl) (by rfl) rfl (fun vs w' hC => ?_) ?_
      · refine askl_do rfl fun K hK => ?_
        go_simp
        exact hK _ _ rfl ⟨rfl, World.grownBy.refl _ none⟩
      -- op 9 (slot 29): indexAddr
      refine LateR.mono (Qv.eq (.pointer (some ⟨gB, oB + j, none⟩))) [(7, 27), (8, 28)] (by kernel_rfl) (by rfl) rfl (fun vs w' hC => ?_) ?_
      · rintro _ rfl
        rintro _ rfl
        refine askl_do rfl fun K hK => ?_
        go_simp
        exact hK _ _ rfl ⟨rfl, World.grownBy.refl _ none⟩
      -- op 10 (slot 30): load
      refine LateR.mono (Qv.eq (.int .i64 b)) [(9, 29)] (by kernel_rfl) (by rfl) rfl (fun vs w' hC => ?_) ?_
      · rintro _ rfl
        refine askl_do rfl fun K hK => ?_
        obtain ⟨q0, q1, q2⟩ := HLD.out vs w' hC
        go_simp
        exact hK _ _ rfl ⟨rfl, World.grownBy.refl _ none⟩
      -- op 11 (slot 31): fieldAddr
      refine LateR.mono (Qv.eq (.pointer (some ⟨w.heap.size, 1, none⟩))) [] (by kernel_rfl) (by rfl) rfl (fun vs w' hC => ?_) ?_
      · refine askl_do rfl fun K hK => ?_
        go_simp
        exact hK _ _ rfl ⟨rfl, World.grownBy.refl _ none⟩
      -- op 12 (slot 32): load
      refine LateR.mono (Qv.eq (.int .u64 p.Q)) [(11, 31)] (by kernel_rfl) (by rfl) rfl (fun vs w' hC => ?_) ?_
      · rintro _ rfl
        refine askl_do rfl fun K hK => ?_
        obtain ⟨q0, q1, q2⟩ := HLD.out vs w' hC
        go_simp
        exact hK _ _ rfl ⟨rfl, World.grownBy.refl _ none⟩
      -- op 13 (slot 33): call
      refine LateR.mono (Qv.eq (.int .u64 z)) [(10, 30), (12, 32)] (by kernel_rfl) (by rfl) rfl (fun vs w' hC => ?_) ?_
      · rintro _ rfl
        rintro _ rfl
        refine askl_do rfl fun K hK => ?_
        go_simp
        refine (HNU.out w').mono ?_
        rintro e w3 ⟨rfl, hg3⟩
        exact hK _ _ rfl ⟨rfl, hg3⟩
      -- op 14 (slot 34): buildSlice
      refine LateR.mono (secZ N z hON.out) [(13, 33)] (by kernel_rfl) (by rfl) rfl (fun vs w' hC => ?_) ?_
      · rintro _ rfl
        refine askl_do rfl fun K hK => ?_
        have hsz := HSZ.out vs w' hC
        go_simp
        exact hK _ _ rfl ⟨fun _ => ⟨_, rfl, hsz, Bk.new w' _ _⟩, World.grownBy_alloc w' _ none⟩
      -- op 15 (slot 35): call
      refine LateR.turn 1 [(5, 25), (14, 34)] (by kernel_rfl) rfl (fun vs w' hl hC => ?_) ?_
      · intro x25 h25
        intro x34 h34
        have h34 : vs.length ≤ 1 → BlkQ N 22 (.int .u64 z) x34 w' := h34
        refine askl_do rfl fun K hK => ?_
        obtain ⟨u, rfl⟩ : ∃ u, vs = [u] := List.length_eq_one_iff.1 hl
        obtain ⟨g1, g2, g3⟩ := hC
        obtain rfl : u = x25 := by have h : some u = some x25 := h25; injection h
        obtain ⟨b34, e34, hb34, hk34⟩ := h34 (Nat.le_refl 1)
        subst e34
        refine pushAt_core (E := encU) el_u64 g3 ⟨rfl, HZ.out⟩ (Bk.one hk34) HLB2.out g1.size (fun g hg => Nat.le_trans g1.size hg) (.tmp 25) (.tmp 34) rfl rfl rfl ?_
        intro v3 w3 ha hgr hm
        exact hK _ _ rfl ⟨trivial, HSTEP.out w' w3 u g1 g3 hgr, Nat.le_trans g2 hgr.size, ha⟩
      intro vs w5 hvl hC5
      obtain ⟨u, u2, rfl⟩ : ∃ u u2, vs = [u, u2] := by
        match vs, hvl with
        | [u, u2], _ => exact ⟨u, u2, rfl⟩
      intro y0 k0 y1 k1 y2 k2 y3 k3 y4 k4 y5 k5 y6 k6 y7 k7 y8 k8 y9 k9 y10 k10 y11 k11 y12 k12 y13 k13 y14 k14 y15 k15
      show wpList Tryz.prog _ _ _ _ w5
      simp only [Act.put, List.setIfInBounds_toArray, List.set_cons_zero, List.set_cons_succ]
      have e15 : y15 = u2 := by have : some u2 = some y15 := k15; injection this with this; exact this.symm
      subst e15
      have HFIN : Hid (Acc encU w0.heap.size 22 (fun g => w0.heap.size ≤ g) w5 y15 (secL p.Q W B (j + 1)) ∧ w0.grownBy w5 none) := Lib.hid ⟨by rw [HSN.out]; exact hC5.2.2, hC5.1⟩
      clear hC5 k0 k1 k2 k3 k4 k5 k6 k7 k8 k9 k10 k11 k12 k13 k14 k15 HLD HSZ HC0 HNUM HSU HNU
      go_wp2_with fail
      go_roundg m
      case measure => omega
      case rel => exact ⟨j + 1, by omega, by go_num, HFIN⟩
end Go.Proofs.YtiimippmihkgcaaGreatDoor

namespace Go.Proofs.YtiimippmihkgcaaGreatDoor
open Go

section
variable {P : Program} {Q : Exit → Act → World → Prop} {a0 : Act} {w0 : World}
def upTo (k m : Nat) : Array Bool := Array.replicate k true ++ Array.replicate (m - k) false
theorem upTo_at {k m i : Nat} (hk : k ≤ m) (d : Bool) : (upTo k m).getD i d = if i < k then true else if i < m then false else d := by
  unfold upTo
  rw [Array.getD_eq_getD_getElem?, Array.getElem?_append]
  by_cases h1 : i < k
  · simp [h1]
  · by_cases h2 : i < m
    · simp [h1, h2, show i - k < m - k by omega]
    · simp [h1, h2, show ¬ i - k < m - k by omega]
theorem upTo_set {k m : Nat} (hk : k < m) : (upTo k m).setIfInBounds k true = upTo (k + 1) m := by
  refine Array.ext (by simp [upTo]; omega) fun i h1 h2 => ?_
  have e1 := upTo_at (k := k + 1) (m := m) (i := i) (by omega) false
  have e2 := upTo_at (k := k) (m := m) (i := i) (by omega) false
  have h3 : i < (upTo k m).size := by simpa using h1
  rw [Array.getElem_setIfInBounds h3]
  rw [Array.getD_eq_getD_getElem?, Array.getElem?_eq_getElem h2] at e1
  rw [Array.getD_eq_getD_getElem?, Array.getElem?_eq_getElem h3] at e2
  simp only [Option.getD_some] at e1 e2
  rw [e1]
  split
  · rename_i h
    subst h
    simp
  · rename_i h
    rw [e2]
    by_cases h4 : i < k
    · simp [h4, show i < k + 1 by omega]
    · simp [h4, show ¬ i < k + 1 by omega]
def seqmB (ops : Array Oper) (n sz : Nat) : Bool := Region.noSelect ops && decide (n ≤ ops.size) && topoB ops n && distB ops n sz
theorem wpList_monoR {l : List Oper} (n : Nat) (hB : seqmB l.toArray n a0.tmps.size = true)
    (h : MonoR P l.toArray n a0 w0 (fun Vs => ∀ w, w0.grownBy w none → FinN P l.toArray Q w Vs l a0) n [] l) : wpList P l.toArray Q l a0 w0 := by
  obtain ⟨hM', hn'⟩ := MonoN.cut (MonoR.up h)
  simp only [seqmB, Bool.and_eq_true, decide_eq_true_eq] at hB
  obtain ⟨⟨⟨hsel, hn⟩, htopo⟩, hdist⟩ := hB
  obtain ⟨Vs, hVl, hF, hO⟩ := Mono.out hM'
  simp only [List.reverse_nil, List.nil_append, List.length_nil, Nat.zero_add] at hF hO
  have htl : (l.take n).length = n := by simp; omega
  have hVn : Vs.length = n := hVl.trans htl
  have hsz : l.toArray.size = l.length := by simp
  have key : ∀ m k a w, k + m = n → MInv l.toArray n a0 w0 Vs (upTo k l.toArray.size) a w → wpList P l.toArray Q (l.drop k) a w := by
    intro m
    induction m with
    | zero =>
      intro k a w hk inv
      obtain rfl : k = n := by omega
      have hk : ∀ (q : Nat) (V : Pv) (o : Oper), Vs[q]? = some V → (l.take k)[q]? = some o → V.p (match o.dst with | some d => a.eval (.tmp d) | none => undef) w := by
        intro q V o hv ho
        have hqn : q < k := by have := (List.getElem?_eq_some_iff.1 hv).1; omega
        have h1 := inv.known q V (by rw [upTo_at hn]; simp [hqn]) hv
        have h2 : dstAt l.toArray q = o.dst := by
          have : l[q]? = some o := by rw [List.getElem?_take, if_pos hqn] at ho; exact ho
          simp [dstAt, this]
        rw [h2] at h1
        have h3 : (match o.dst with | some d => a.eval (.tmp d) | none => undef) = valOf o.dst a := by cases o.dst <;> rfl
        rw [h3]
        exact h1
      have hcut := FinN.cut (by rw [hVn]; omega) (hF w inv.grown)
      rw [hVn] at hcut
      have hfin := Fin'.all hVl hk hcut
      have hon : onto a ((l.take k).map (·.dst)) a0 = a := by
        refine act_ext (fun t => onto_at a t _ _ inv.tsize.symm ?_) ((onto_defers _ _ _).trans inv.defers.symm)
        by_cases ht : some t ∈ (l.take k).map (·.dst)
        · exact .inl ht
        · refine .inr (inv.rest t fun j hj _ e => ht ?_).symm
          have hjl : j < l.length := by omega
          have : l[j].dst = some t := by simpa [dstAt, hjl] using e
          exact List.mem_map.2 ⟨l[j], List.mem_iff_getElem?.2 ⟨j, by rw [List.getElem?_take, if_pos hj, List.getElem?_eq_getElem hjl]⟩, this⟩
      rw [hon] at hfin
      exact hfin
    | succ m ih =>
      intro k a w hk inv
      have hkn : k < n := by omega
      have hkl : k < l.length := by omega
      have ho : l.toArray[k]? = some l[k] := by simp [hkl]
      have hnext : (l.take n)[k]? = some l[k] := by rw [List.getElem?_take, if_pos hkn, List.getElem?_eq_getElem hkl]
      obtain ⟨V, js, hV, hchk, hask⟩ := hO k l[k] hnext
      simp only [Bool.and_eq_true] at hchk
      obtain ⟨hpair, hlook⟩ := hchk
      have hu : (upTo k l.toArray.size).getD k true = false := by rw [upTo_at (by omega)]; simp [hkl]
      have hed : ∀ e ∈ l[k].after, Region.binds .any e = true → (upTo k l.toArray.size).getD e.on false = true := fun e he hb => by
        have ht := list_all_range htopo hkn
        simp only [ho, Option.map_some, Option.getD_some] at ht
        have := Array.all_eq_true_iff_forall_mem.1 ht e he
        rw [upTo_at (by omega)]
        simp only [hb, Bool.not_true, Bool.false_or, decide_eq_true_eq] at this
        simp [this]
      have hi : k ∈ Region.ready .any l.toArray (upTo k l.toArray.size) := mem_ready.2 ⟨hu, _, ho, hed⟩
      have hdst : ∀ d, l[k].dst = some d → d < a.tmps.size := by
        intro d hd
        have := list_all_range hdist hkn
        have h2 : dstAt l.toArray k = some d := by simp only [dstAt, ho]; exact hd
        rw [h2] at this
        simp only [Bool.and_eq_true, decide_eq_true_eq] at this
        rw [inv.tsize]
        exact this.1
      have hjs : ∀ x : Nat × Tmp, x ∈ js → dstAt l.toArray x.1 = some x.2 ∧ (upTo k l.toArray.size).getD x.1 false = true ∧ x.1 < k := by
        intro x hx
        have := List.all_eq_true.1 hpair x hx
        simp only [Bool.and_eq_true, beq_iff_eq] at this
        obtain ⟨oj, hoj, e, he, hb, hon⟩ := Region.waitsFor_spec this.2
        have hoo : l[k] = oj := Option.some.inj (ho.symm.trans hoj)
        subst hoo
        have ht := list_all_range htopo hkn
        simp only [ho, Option.map_some, Option.getD_some] at ht
        have ht := Array.all_eq_true_iff_forall_mem.1 ht e he
        simp only [hb, Bool.not_true, Bool.false_or, decide_eq_true_eq] at ht
        exact ⟨this.1, by rw [← hon]; exact hed e he hb, by rw [← hon]; exact ht⟩
      have hA := hask w inv.grown
      have hW := Ask.all (b := a) (fun x hx => by
        obtain ⟨h1, h2, h3⟩ := hjs x hx
        have hxl : x.1 < Vs.length := by omega
        have h4 : Vs[x.1]? = some Vs[x.1] := List.getElem?_eq_getElem hxl
        have h5 := inv.known x.1 _ h2 h4
        rw [h1] at h5
        have : (Vs.take k).getD x.1 Pv.any = Vs[x.1] := by
          rw [List.getD_eq_getElem?_getD, List.getElem?_take, if_pos h3, h4]
          rfl
        rw [this]
        exact h5) hA
      have hop := told_op (Q := Q) (ops := l.toArray) (a0 := a0) (a := a) (Region.noSelect_spec hsel k l[k] · · ho) hdst ((onto_size _ _ _).trans inv.tsize.symm) (fun t ht => by
        refine onto_at a t _ _ inv.tsize.symm ?_
        have h1 : (l[k].looksAt l.toArray).all (fun t => js.any (·.2 == t) || keptB l.toArray n k t) = true := by
          simpa only [lookB, ho, Option.map_some, Option.getD_some] using hlook
        have h2 := List.all_eq_true.1 h1 t ht
        simp only [Bool.or_eq_true] at h2
        rcases h2 with h2 | h2
        · left
          obtain ⟨x, hx, hxt⟩ := List.any_eq_true.1 h2
          exact List.mem_map.2 ⟨x, hx, by rw [beq_iff_eq.1 hxt]⟩
        · right
          refine (inv.rest t fun j hj hD e => ?_).symm
          have h3 := list_all_range h2 hj
          simp only [Bool.or_eq_true, bne_iff_ne, ne_eq, beq_iff_eq] at h3
          rcases h3 with (h3 | h3) | h3
          · exact h3 e
          · obtain ⟨oj, hoj, e', he', hb', hon⟩ := Region.waitsFor_spec h3
            have := inv.head.closed j oj hoj hD e' he' hb'
            rw [hon, getD_both hu] at this
            cases this
          · subst h3
            rw [getD_both hu] at hD
            cases hD) ho (onto_defers _ _ _) hW
      have hstep : wpOp P l.toArray Q k (wpList P l.toArray Q (l.drop (k + 1))) a w := wpOp_mono (fun a' w' hk' => by
        obtain ⟨v, ha, hv, hg⟩ := hk'
        have := minv_step inv hdist hi hkn ho hV (by omega) ha hv hg
        rw [upTo_set (by omega)] at this
        exact ih (k + 1) a' w' (by omega) this) hop
      rw [List.drop_eq_getElem_cons hkl]
      unfold wpOp at hstep
      simp only [ho] at hstep
      exact hstep
  refine key n 0 a0 w0 (by omega) ⟨⟨by simp [upTo], fun j oj hj hD => by rw [upTo_at (by omega)] at hD; simp at hD, fun t _ ht => by rw [upTo_at (by omega)]; simp at ht; simp [ht]⟩, World.grownBy.refl w0 none, rfl, rfl, fun _ _ => rfl, fun j V hD => by rw [upTo_at (by omega)] at hD; simp at hD⟩
theorem wp_region_seqm {l : List Oper} {id : Nat} (n : Nat) (hB : seqmB l.toArray n a0.tmps.size = true)
    (h : MonoR P l.toArray n a0 w0 (fun Vs => ∀ w, w0.grownBy w none → FinN P l.toArray Q w Vs l a0) n [] l) : (Code.region id l.toArray false).wp P Q a0 w0 :=
  wp_region_lit (wpList_monoR n hB h)
end
end Go.Proofs.YtiimippmihkgcaaGreatDoor

namespace Go.Proofs.YtiimippmihkgcaaGreatDoor
open Go Go.RowKit

def Pv.tup {α : Type} (E : Enc α) (xs : List α) (n : Int) : Pv := ⟨fun v w => ∃ u, v = .tuple #[u, .int .i64 n] ∧ Sl E TT w u xs, fun ⟨u, e, h⟩ hg => ⟨u, e, h.kept hg⟩⟩
def Pv.model (W : List (List Int)) (B : List Int) : Pv := ⟨fun v w => ∃ a b, v = .agg #[a, b] ∧ Sl (encS encI) TT w a W ∧ Sl encI TT w b B, fun ⟨a, b, e, h, k⟩ hg => ⟨a, b, e, h.kept hg, k.kept hg⟩⟩
def Pv.mtup (W : List (List Int)) (B : List Int) (n : Int) : Pv := ⟨fun v w => ∃ a b, v = .tuple #[.agg #[a, b], .int .i64 n] ∧ Sl (encS encI) TT w a W ∧ Sl encI TT w b B, fun ⟨a, b, e, h, k⟩ hg => ⟨a, b, e, h.kept hg, k.kept hg⟩⟩
def Pv.dealt (d : Int) (l : List (List Int)) : Pv := ⟨fun v w => ∃ u, v = .agg #[.int .i64 d, u] ∧ Sl (encS encU) TT w u l, fun ⟨u, e, h⟩ hg => ⟨u, e, h.kept hg⟩⟩
end Go.Proofs.YtiimippmihkgcaaGreatDoor

namespace Go.Proofs.YtiimippmihkgcaaGreatDoor
open Go Go.RowKit

set_option maxRecDepth 100000 in
set_option maxHeartbeats 4000000 in
theorem works20_any (w : World) : Calls Tryz.prog 4 #[] w fun e w' => e = .returned (.bool true) ∧ w.grownBy w' none := by
  go_enter Tryz.func4, Tryz.ntmps4
  go_wp2_with fail
  refine (small20_any w).mono ?_
  rintro e w2 ⟨rfl, hg⟩
  have HB : Hid (Bk (w2.alloc (.cells ps.cells 24)) w2.heap.size 24 ps.cells) := Lib.hid (Bk.new w2 _ _)
  have HG : Hid (w.grownBy (w2.alloc (.cells ps.cells 24)) none) := Lib.hid (hg.trans (World.grownBy_alloc _ _ none))
  clear hg
  go_upto_region 2 with (fail)
  obtain ⟨w3, hw3⟩ : ∃ w3, w2.alloc (.cells ps.cells 24) = w3 := ⟨_, rfl⟩
  rw [hw3] at HB HG ⊢
  clear hw3
  refine wp_region_seqm 8 (by kernel_rfl) ?_
  -- op 0 (slot 14): build
  refine MonoR.step (Pv.eq (.agg #[.int .u64 6, .int .u64 5])) [] (by kernel_rfl) (fun w' hw' => ?_) ?_
  · refine ask_do rfl fun K hK => ?_
    go_simp
    exact hK _ _ rfl rfl (World.grownBy.refl _ none)
  -- op 1 (slot 15): build
  refine MonoR.step (Pv.eq (.agg #[.int .u64 0, .int .u64 0])) [] (by kernel_rfl) (fun w' hw' => ?_) ?_
  · refine ask_do rfl fun K hK => ?_
    go_simp
    exact hK _ _ rfl rfl (World.grownBy.refl _ none)
  -- op 2 (slot 16): buildSlice
  refine MonoR.step (Pv.sl (encP) TT [(6, 5), (0, 0)]) [(0, 14), (1, 15)] (by kernel_rfl) (fun w' hw' => ?_) ?_
  · rintro _ rfl
    rintro _ rfl
    refine ask_do rfl fun K hK => ?_
    go_simp
    exact hK _ _ rfl (Sl.build [[.int .u64 6, .int .u64 5], [.int .u64 0, .int .u64 0]] rfl ⟨⟨rfl, by decide, by decide⟩, ⟨rfl, by decide, by decide⟩, trivial⟩ rfl (by decide)) (World.grownBy_alloc w' _ none)
  -- op 3 (slot 17): build
  refine MonoR.step (Pv.eq (.agg #[.int .u64 7, .int .u64 8])) [] (by kernel_rfl) (fun w' hw' => ?_) ?_
  · refine ask_do rfl fun K hK => ?_
    go_simp
    exact hK _ _ rfl rfl (World.grownBy.refl _ none)
  -- op 4 (slot 18): build
  refine MonoR.step (Pv.eq (.agg #[.int .u64 4, .int .u64 6])) [] (by kernel_rfl) (fun w' hw' => ?_) ?_
  · refine ask_do rfl fun K hK => ?_
    go_simp
    exact hK _ _ rfl rfl (World.grownBy.refl _ none)
  -- op 5 (slot 19): buildSlice
  refine MonoR.step (Pv.sl (encP) TT [(7, 8), (4, 6)]) [(3, 17), (4, 18)] (by kernel_rfl) (fun w' hw' => ?_) ?_
  · rintro _ rfl
    rintro _ rfl
    refine ask_do rfl fun K hK => ?_
    go_simp
    exact hK _ _ rfl (Sl.build [[.int .u64 7, .int .u64 8], [.int .u64 4, .int .u64 6]] rfl ⟨⟨rfl, by decide, by decide⟩, ⟨rfl, by decide, by decide⟩, trivial⟩ rfl (by decide)) (World.grownBy_alloc w' _ none)
  -- op 6 (slot 20): buildSlice
  refine MonoR.step (Pv.sl (encS encP) TT [[(6, 5), (0, 0)], [(7, 8), (4, 6)]]) [(2, 16), (5, 19)] (by kernel_rfl) (fun w' hw' => ?_) ?_
  · intro x16 h16
    have h16 : Sl (encP) TT w' x16 [(6, 5), (0, 0)] := h16
    obtain ⟨A16, c16, e16, k16, l16⟩ := h16.form
    have e16 : x16 = .slice A16 2 c16 := e16
    subst e16
    intro x19 h19
    have h19 : Sl (encP) TT w' x19 [(7, 8), (4, 6)] := h19
    obtain ⟨A19, c19, e19, k19, l19⟩ := h19.form
    have e19 : x19 = .slice A19 2 c19 := e19
    subst e19
    refine ask_do rfl fun K hK => ?_
    go_simp
    exact hK _ _ rfl (Sl.build [[.slice A16 2 c16], [.slice A19 2 c19]] rfl ⟨⟨_, rfl, h16⟩, ⟨_, rfl, h19⟩, trivial⟩ rfl (by decide)) (World.grownBy_alloc w' _ none)
  -- op 7 (slot 2): assign
  refine MonoR.step (Pv.sl (encS encP) TT [[(6, 5), (0, 0)], [(7, 8), (4, 6)]]) [(6, 20)] (by kernel_rfl) (fun w' hw' => ?_) ?_
  · intro x20 h20
    have h20 : Sl (encS encP) TT w' x20 [[(6, 5), (0, 0)], [(7, 8), (4, 6)]] := h20
    refine ask_do rfl fun K hK => ?_
    go_simp
    exact hK _ _ rfl h20 (World.grownBy.refl _ none)
  intro w4 hww4
  intro _ _
  intro _ _
  intro _ _
  intro _ _
  intro _ _
  intro _ _
  intro _ _
  intro v2 h2'
  simp only [Act.put, List.setIfInBounds_toArray, List.set_cons_zero, List.set_cons_succ]
  have HBd : Hid (Bk w4 w2.heap.size 24 ps.cells) := Lib.hid (Bk.grown HB.out hww4 (by simp))
  have HGd : Hid (w.grownBy w4 none) := Lib.hid ((HG.out).trans hww4)
  clear HB
  have HB := HBd
  clear HBd
  clear HG
  have HG := HGd
  clear HGd
  have HS2 : Hid (Sl (encS encP) TT w4 v2 [[(6, 5), (0, 0)], [(7, 8), (4, 6)]]) := Lib.hid h2'
  clear h2'
  clear hww4
  refine wpList_nil ?_
  go_upto_region 3 with (fail)
  refine wp_region_seqm 9 (by kernel_rfl) ?_
  -- op 0 (slot 22): load
  refine MonoR.step (Pv.eq (ps.v)) [] (by kernel_rfl) (fun w' hw' => ?_) ?_
  · refine ask_do rfl fun K hK => ?_
    have hp := (HB.out.grown hw' (by simp)).prule
    go_simp
    exact hK _ _ rfl rfl (World.grownBy.refl _ none)
  -- op 1 (slot 23): buildSlice
  refine MonoR.step (Pv.sl (encI) TT [1, 2]) [] (by kernel_rfl) (fun w' hw' => ?_) ?_
  · refine ask_do rfl fun K hK => ?_
    go_simp
    exact hK _ _ rfl (Sl.build [[.int .i64 1], [.int .i64 2]] rfl ⟨⟨rfl, ⟨by decide, by decide⟩⟩, ⟨rfl, ⟨by decide, by decide⟩⟩, trivial⟩ rfl (by decide)) (World.grownBy_alloc w' _ none)
  -- op 2 (slot 24): move
  refine MonoR.step (Pv.sl (encS encP) TT [[(6, 5), (0, 0)], [(7, 8), (4, 6)]]) [] (by kernel_rfl) (fun w' hw' => ?_) ?_
  · refine ask_do rfl fun K hK => ?_
    go_simp
    exact hK _ _ rfl (HS2.out.kept hw') (World.grownBy.refl _ none)
  -- op 3 (slot 25): call
  refine MonoR.step (Pv.tup (encP) [(5, 2), (7, 5)] 0) [(0, 22), (1, 23), (2, 24)] (by kernel_rfl) (fun w' hw' => ?_) ?_
  · rintro _ rfl
    intro x23 h23
    have h23 : Sl (encI) TT w' x23 [1, 2] := h23
    intro x24 h24
    have h24 : Sl (encS encP) TT w' x24 [[(6, 5), (0, 0)], [(7, 8), (4, 6)]] := h24
    refine ask_do rfl fun K hK => ?_
    go_simp
    refine (sum_any ps _ [1, 2] _ [[(6, 5), (0, 0)], [(7, 8), (4, 6)]] TT TT w' ps_ok h23 h24 (by decide) (by decide)).mono ?_
    rintro e w3 ⟨v3, he, h3, hg⟩
    rw [(show sumE ps [1, 2] [[(6, 5), (0, 0)], [(7, 8), (4, 6)]] = 0 by rw [sumE_eq]; decide +kernel)] at he
    rw [(show sumL ps [1, 2] [[(6, 5), (0, 0)], [(7, 8), (4, 6)]] = [(5, 2), (7, 5)] by rw [sumL_eq]; decide +kernel)] at h3
    subst he
    exact hK _ _ rfl ⟨_, rfl, h3.more (fun _ _ _ => trivial)⟩ hg
  -- op 4 (slot 21): move
  refine MonoR.step (Pv.tup (encP) [(5, 2), (7, 5)] 0) [(3, 25)] (by kernel_rfl) (fun w' hw' => ?_) ?_
  · intro x25 q25
    obtain ⟨u25, e25, h25⟩ : ∃ u, x25 = .tuple #[u, .int .i64 0] ∧ Sl (encP) TT w' u [(5, 2), (7, 5)] := q25
    subst e25
    refine ask_do rfl fun K hK => ?_
    go_simp
    exact hK _ _ rfl ⟨_, rfl, h25⟩ (World.grownBy.refl _ none)
  -- op 5 (slot 26): extract
  refine MonoR.step (Pv.sl (encP) TT [(5, 2), (7, 5)]) [(4, 21)] (by kernel_rfl) (fun w' hw' => ?_) ?_
  · intro x21 q21
    obtain ⟨u21, e21, h21⟩ : ∃ u, x21 = .tuple #[u, .int .i64 0] ∧ Sl (encP) TT w' u [(5, 2), (7, 5)] := q21
    subst e21
    refine ask_do rfl fun K hK => ?_
    go_simp
    exact hK _ _ rfl h21 (World.grownBy.refl _ none)
  -- op 6 (slot 27): extract
  refine MonoR.step (Pv.eq (.int .i64 0)) [(4, 21)] (by kernel_rfl) (fun w' hw' => ?_) ?_
  · intro x21 q21
    obtain ⟨u21, e21, h21⟩ : ∃ u, x21 = .tuple #[u, .int .i64 0] ∧ Sl (encP) TT w' u [(5, 2), (7, 5)] := q21
    subst e21
    refine ask_do rfl fun K hK => ?_
    go_simp
    exact hK _ _ rfl rfl (World.grownBy.refl _ none)
  -- op 7 (slot 3): assign
  refine MonoR.step (Pv.sl (encP) TT [(5, 2), (7, 5)]) [(5, 26)] (by kernel_rfl) (fun w' hw' => ?_) ?_
  · intro x26 h26
    have h26 : Sl (encP) TT w' x26 [(5, 2), (7, 5)] := h26
    refine ask_do rfl fun K hK => ?_
    go_simp
    exact hK _ _ rfl h26 (World.grownBy.refl _ none)
  -- op 8 (slot 4): assign
  refine MonoR.step (Pv.eq (.int .i64 0)) [(6, 27)] (by kernel_rfl) (fun w' hw' => ?_) ?_
  · rintro _ rfl
    refine ask_do rfl fun K hK => ?_
    go_simp
    exact hK _ _ rfl rfl (World.grownBy.refl _ none)
  intro w5 hww5
  intro _ _
  intro _ _
  intro _ _
  intro _ _
  intro _ _
  intro _ _
  intro _ _
  intro v3 h3'
  rintro _ rfl
  simp only [Act.put, List.setIfInBounds_toArray, List.set_cons_zero, List.set_cons_succ]
  have HBd : Hid (Bk w5 w2.heap.size 24 ps.cells) := Lib.hid (Bk.grown HB.out hww5 (by simp))
  have HGd : Hid (w.grownBy w5 none) := Lib.hid ((HG.out).trans hww5)
  have HS2d : Hid (Sl (encS encP) TT w5 v2 [[(6, 5), (0, 0)], [(7, 8), (4, 6)]]) := Lib.hid (Sl.kept HS2.out hww5)
  clear HB
  have HB := HBd
  clear HBd
  clear HG
  have HG := HGd
  clear HGd
  clear HS2
  have HS2 := HS2d
  clear HS2d
  have HS3 : Hid (Sl (encP) TT w5 v3 [(5, 2), (7, 5)]) := Lib.hid h3'
  clear h3'
  clear hww5
  refine wpList_nil ?_
  go_upto_region 4 with (fail)
  refine wp_region_seqm 9 (by kernel_rfl) ?_
  -- op 0 (slot 29): load
  refine MonoR.step (Pv.eq (ps.v)) [] (by kernel_rfl) (fun w' hw' => ?_) ?_
  · refine ask_do rfl fun K hK => ?_
    have hp := (HB.out.grown hw' (by simp)).prule
    go_simp
    exact hK _ _ rfl rfl (World.grownBy.refl _ none)
  -- op 1 (slot 30): buildSlice
  refine MonoR.step (Pv.sl (encI) TT [1, 1]) [] (by kernel_rfl) (fun w' hw' => ?_) ?_
  · refine ask_do rfl fun K hK => ?_
    go_simp
    exact hK _ _ rfl (Sl.build [[.int .i64 1], [.int .i64 1]] rfl ⟨⟨rfl, ⟨by decide, by decide⟩⟩, ⟨rfl, ⟨by decide, by decide⟩⟩, trivial⟩ rfl (by decide)) (World.grownBy_alloc w' _ none)
  -- op 2 (slot 31): move
  refine MonoR.step (Pv.sl (encS encP) TT [[(6, 5), (0, 0)], [(7, 8), (4, 6)]]) [] (by kernel_rfl) (fun w' hw' => ?_) ?_
  · refine ask_do rfl fun K hK => ?_
    go_simp
    exact hK _ _ rfl (HS2.out.kept hw') (World.grownBy.refl _ none)
  -- op 3 (slot 32): call
  refine MonoR.step (Pv.tup (encP) [] 6) [(0, 29), (1, 30), (2, 31)] (by kernel_rfl) (fun w' hw' => ?_) ?_
  · rintro _ rfl
    intro x30 h30
    have h30 : Sl (encI) TT w' x30 [1, 1] := h30
    intro x31 h31
    have h31 : Sl (encS encP) TT w' x31 [[(6, 5), (0, 0)], [(7, 8), (4, 6)]] := h31
    refine ask_do rfl fun K hK => ?_
    go_simp
    refine (sum_any ps _ [1, 1] _ [[(6, 5), (0, 0)], [(7, 8), (4, 6)]] TT TT w' ps_ok h30 h31 (by decide) (by decide)).mono ?_
    rintro e w3 ⟨v3, he, h3, hg⟩
    rw [(show sumE ps [1, 1] [[(6, 5), (0, 0)], [(7, 8), (4, 6)]] = 6 by rw [sumE_eq]; decide +kernel)] at he
    rw [(show sumL ps [1, 1] [[(6, 5), (0, 0)], [(7, 8), (4, 6)]] = [] by rw [sumL_eq]; decide +kernel)] at h3
    subst he
    exact hK _ _ rfl ⟨_, rfl, h3.more (fun _ _ _ => trivial)⟩ hg
  -- op 4 (slot 28): move
  refine MonoR.step (Pv.tup (encP) [] 6) [(3, 32)] (by kernel_rfl) (fun w' hw' => ?_) ?_
  · intro x32 q32
    obtain ⟨u32, e32, h32⟩ : ∃ u, x32 = .tuple #[u, .int .i64 6] ∧ Sl (encP) TT w' u [] := q32
    subst e32
    refine ask_do rfl fun K hK => ?_
    go_simp
    exact hK _ _ rfl ⟨_, rfl, h32⟩ (World.grownBy.refl _ none)
  -- op 5 (slot 33): extract
  refine MonoR.step (Pv.sl (encP) TT []) [(4, 28)] (by kernel_rfl) (fun w' hw' => ?_) ?_
  · intro x28 q28
    obtain ⟨u28, e28, h28⟩ : ∃ u, x28 = .tuple #[u, .int .i64 6] ∧ Sl (encP) TT w' u [] := q28
    subst e28
    refine ask_do rfl fun K hK => ?_
    go_simp
    exact hK _ _ rfl h28 (World.grownBy.refl _ none)
  -- op 6 (slot 34): extract
  refine MonoR.step (Pv.eq (.int .i64 6)) [(4, 28)] (by kernel_rfl) (fun w' hw' => ?_) ?_
  · intro x28 q28
    obtain ⟨u28, e28, h28⟩ : ∃ u, x28 = .tuple #[u, .int .i64 6] ∧ Sl (encP) TT w' u [] := q28
    subst e28
    refine ask_do rfl fun K hK => ?_
    go_simp
    exact hK _ _ rfl rfl (World.grownBy.refl _ none)
  -- op 7 (slot 5): assign
  refine MonoR.step (Pv.sl (encP) TT []) [(5, 33)] (by kernel_rfl) (fun w' hw' => ?_) ?_
  · intro x33 h33
    have h33 : Sl (encP) TT w' x33 [] := h33
    refine ask_do rfl fun K hK => ?_
    go_simp
    exact hK _ _ rfl h33 (World.grownBy.refl _ none)
  -- op 8 (slot 6): assign
  refine MonoR.step (Pv.eq (.int .i64 6)) [(6, 34)] (by kernel_rfl) (fun w' hw' => ?_) ?_
  · rintro _ rfl
    refine ask_do rfl fun K hK => ?_
    go_simp
    exact hK _ _ rfl rfl (World.grownBy.refl _ none)
  intro w6 hww6
  intro _ _
  intro _ _
  intro _ _
  intro _ _
  intro _ _
  intro _ _
  intro _ _
  intro _ _
  rintro _ rfl
  simp only [Act.put, List.setIfInBounds_toArray, List.set_cons_zero, List.set_cons_succ]
  have HBd : Hid (Bk w6 w2.heap.size 24 ps.cells) := Lib.hid (Bk.grown HB.out hww6 (by simp))
  have HGd : Hid (w.grownBy w6 none) := Lib.hid ((HG.out).trans hww6)
  have HS2d : Hid (Sl (encS encP) TT w6 v2 [[(6, 5), (0, 0)], [(7, 8), (4, 6)]]) := Lib.hid (Sl.kept HS2.out hww6)
  have HS3d : Hid (Sl (encP) TT w6 v3 [(5, 2), (7, 5)]) := Lib.hid (Sl.kept HS3.out hww6)
  clear HB
  have HB := HBd
  clear HBd
  clear HG
  have HG := HGd
  clear HGd
  clear HS2
  have HS2 := HS2d
  clear HS2d
  clear HS3
  have HS3 := HS3d
  clear HS3d
  clear hww6
  refine wpList_nil ?_
  go_upto_region 5 with (fail)
  refine wp_region_seqm 9 (by kernel_rfl) ?_
  -- op 0 (slot 36): load
  refine MonoR.step (Pv.eq (ps.v)) [] (by kernel_rfl) (fun w' hw' => ?_) ?_
  · refine ask_do rfl fun K hK => ?_
    have hp := (HB.out.grown hw' (by simp)).prule
    go_simp
    exact hK _ _ rfl rfl (World.grownBy.refl _ none)
  -- op 1 (slot 37): buildSlice
  refine MonoR.step (Pv.sl (encI) TT [1, 8]) [] (by kernel_rfl) (fun w' hw' => ?_) ?_
  · refine ask_do rfl fun K hK => ?_
    go_simp
    exact hK _ _ rfl (Sl.build [[.int .i64 1], [.int .i64 8]] rfl ⟨⟨rfl, ⟨by decide, by decide⟩⟩, ⟨rfl, ⟨by decide, by decide⟩⟩, trivial⟩ rfl (by decide)) (World.grownBy_alloc w' _ none)
  -- op 2 (slot 38): move
  refine MonoR.step (Pv.sl (encS encP) TT [[(6, 5), (0, 0)], [(7, 8), (4, 6)]]) [] (by kernel_rfl) (fun w' hw' => ?_) ?_
  · refine ask_do rfl fun K hK => ?_
    go_simp
    exact hK _ _ rfl (HS2.out.kept hw') (World.grownBy.refl _ none)
  -- op 3 (slot 39): call
  refine MonoR.step (Pv.tup (encP) [] 1) [(0, 36), (1, 37), (2, 38)] (by kernel_rfl) (fun w' hw' => ?_) ?_
  · rintro _ rfl
    intro x37 h37
    have h37 : Sl (encI) TT w' x37 [1, 8] := h37
    intro x38 h38
    have h38 : Sl (encS encP) TT w' x38 [[(6, 5), (0, 0)], [(7, 8), (4, 6)]] := h38
    refine ask_do rfl fun K hK => ?_
    go_simp
    refine (sum_any ps _ [1, 8] _ [[(6, 5), (0, 0)], [(7, 8), (4, 6)]] TT TT w' ps_ok h37 h38 (by decide) (by decide)).mono ?_
    rintro e w3 ⟨v3, he, h3, hg⟩
    rw [(show sumE ps [1, 8] [[(6, 5), (0, 0)], [(7, 8), (4, 6)]] = 1 by rw [sumE_eq]; decide +kernel)] at he
    rw [(show sumL ps [1, 8] [[(6, 5), (0, 0)], [(7, 8), (4, 6)]] = [] by rw [sumL_eq]; decide +kernel)] at h3
    subst he
    exact hK _ _ rfl ⟨_, rfl, h3.more (fun _ _ _ => trivial)⟩ hg
  -- op 4 (slot 35): move
  refine MonoR.step (Pv.tup (encP) [] 1) [(3, 39)] (by kernel_rfl) (fun w' hw' => ?_) ?_
  · intro x39 q39
    obtain ⟨u39, e39, h39⟩ : ∃ u, x39 = .tuple #[u, .int .i64 1] ∧ Sl (encP) TT w' u [] := q39
    subst e39
    refine ask_do rfl fun K hK => ?_
    go_simp
    exact hK _ _ rfl ⟨_, rfl, h39⟩ (World.grownBy.refl _ none)
  -- op 5 (slot 40): extract
  refine MonoR.step (Pv.sl (encP) TT []) [(4, 35)] (by kernel_rfl) (fun w' hw' => ?_) ?_
  · intro x35 q35
    obtain ⟨u35, e35, h35⟩ : ∃ u, x35 = .tuple #[u, .int .i64 1] ∧ Sl (encP) TT w' u [] := q35
    subst e35
    refine ask_do rfl fun K hK => ?_
    go_simp
    exact hK _ _ rfl h35 (World.grownBy.refl _ none)
  -- op 6 (slot 41): extract
  refine MonoR.step (Pv.eq (.int .i64 1)) [(4, 35)] (by kernel_rfl) (fun w' hw' => ?_) ?_
  · intro x35 q35
    obtain ⟨u35, e35, h35⟩ : ∃ u, x35 = .tuple #[u, .int .i64 1] ∧ Sl (encP) TT w' u [] := q35
    subst e35
    refine ask_do rfl fun K hK => ?_
    go_simp
    exact hK _ _ rfl rfl (World.grownBy.refl _ none)
  -- op 7 (slot 7): assign
  refine MonoR.step (Pv.sl (encP) TT []) [(5, 40)] (by kernel_rfl) (fun w' hw' => ?_) ?_
  · intro x40 h40
    have h40 : Sl (encP) TT w' x40 [] := h40
    refine ask_do rfl fun K hK => ?_
    go_simp
    exact hK _ _ rfl h40 (World.grownBy.refl _ none)
  -- op 8 (slot 8): assign
  refine MonoR.step (Pv.eq (.int .i64 1)) [(6, 41)] (by kernel_rfl) (fun w' hw' => ?_) ?_
  · rintro _ rfl
    refine ask_do rfl fun K hK => ?_
    go_simp
    exact hK _ _ rfl rfl (World.grownBy.refl _ none)
  intro w7 hww7
  intro _ _
  intro _ _
  intro _ _
  intro _ _
  intro _ _
  intro _ _
  intro _ _
  intro _ _
  rintro _ rfl
  simp only [Act.put, List.setIfInBounds_toArray, List.set_cons_zero, List.set_cons_succ]
  have HBd : Hid (Bk w7 w2.heap.size 24 ps.cells) := Lib.hid (Bk.grown HB.out hww7 (by simp))
  have HGd : Hid (w.grownBy w7 none) := Lib.hid ((HG.out).trans hww7)
  have HS2d : Hid (Sl (encS encP) TT w7 v2 [[(6, 5), (0, 0)], [(7, 8), (4, 6)]]) := Lib.hid (Sl.kept HS2.out hww7)
  have HS3d : Hid (Sl (encP) TT w7 v3 [(5, 2), (7, 5)]) := Lib.hid (Sl.kept HS3.out hww7)
  clear HB
  have HB := HBd
  clear HBd
  clear HG
  have HG := HGd
  clear HGd
  clear HS2
  have HS2 := HS2d
  clear HS2d
  clear HS3
  have HS3 := HS3d
  clear HS3d
  clear hww7
  refine wpList_nil ?_
  clear HS2
  go_upto_region 6 with (fail)
  refine wp_region_seqm 6 (by kernel_rfl) ?_
  -- op 0 (slot 43): load
  refine MonoR.step (Pv.eq (ps.v)) [] (by kernel_rfl) (fun w' hw' => ?_) ?_
  · refine ask_do rfl fun K hK => ?_
    have hp := (HB.out.grown hw' (by simp)).prule
    go_simp
    exact hK _ _ rfl rfl (World.grownBy.refl _ none)
  -- op 1 (slot 44): buildSlice
  refine MonoR.step (Pv.sl (encU) TT [1, 10]) [] (by kernel_rfl) (fun w' hw' => ?_) ?_
  · refine ask_do rfl fun K hK => ?_
    go_simp
    exact hK _ _ rfl (Sl.build [[.int .u64 1], [.int .u64 10]] rfl ⟨⟨rfl, ⟨by decide, by decide⟩⟩, ⟨rfl, ⟨by decide, by decide⟩⟩, trivial⟩ rfl (by decide)) (World.grownBy_alloc w' _ none)
  -- op 2 (slot 45): call
  refine MonoR.step (Pv.mtup [[1]] [(-1)] 0) [(0, 43), (1, 44)] (by kernel_rfl) (fun w' hw' => ?_) ?_
  · rintro _ rfl
    intro x44 h44
    have h44 : Sl (encU) TT w' x44 [1, 10] := h44
    refine ask_do rfl fun K hK => ?_
    go_simp
    refine (smodel_any ps _ [1, 10] TT w' ps_ok h44 (by decide)).mono ?_
    rintro e w3 ⟨a3, b3, he, h3, k3, _, hg⟩
    rw [(show modelE ps [1, 10] = 0 by decide +kernel)] at he
    rw [(show modelW ps [1, 10] = [[1]] by decide +kernel)] at h3
    rw [(show modelB ps [1, 10] = [(-1)] by decide +kernel)] at k3
    subst he
    exact hK _ _ rfl ⟨_, _, rfl, h3.plain.more (fun _ _ _ => trivial), k3.more (fun _ _ _ => trivial)⟩ hg
  -- op 3 (slot 42): move
  refine MonoR.step (Pv.mtup [[1]] [(-1)] 0) [(2, 45)] (by kernel_rfl) (fun w' hw' => ?_) ?_
  · intro x45 q45
    obtain ⟨a45, b45, e45, h45, k45⟩ : ∃ a b, x45 = .tuple #[.agg #[a, b], .int .i64 0] ∧ Sl (encS encI) TT w' a [[1]] ∧ Sl encI TT w' b [(-1)] := q45
    subst e45
    refine ask_do rfl fun K hK => ?_
    go_simp
    exact hK _ _ rfl ⟨_, _, rfl, h45, k45⟩ (World.grownBy.refl _ none)
  -- op 4 (slot 46): extract
  refine MonoR.step (Pv.model [[1]] [(-1)]) [(3, 42)] (by kernel_rfl) (fun w' hw' => ?_) ?_
  · intro x42 q42
    obtain ⟨a42, b42, e42, h42, k42⟩ : ∃ a b, x42 = .tuple #[.agg #[a, b], .int .i64 0] ∧ Sl (encS encI) TT w' a [[1]] ∧ Sl encI TT w' b [(-1)] := q42
    subst e42
    refine ask_do rfl fun K hK => ?_
    go_simp
    exact hK _ _ rfl ⟨_, _, rfl, h42, k42⟩ (World.grownBy.refl _ none)
  -- op 5 (slot 47): extract
  refine MonoR.step (Pv.eq (.int .i64 0)) [(3, 42)] (by kernel_rfl) (fun w' hw' => ?_) ?_
  · intro x42 q42
    obtain ⟨a42, b42, e42, h42, k42⟩ : ∃ a b, x42 = .tuple #[.agg #[a, b], .int .i64 0] ∧ Sl (encS encI) TT w' a [[1]] ∧ Sl encI TT w' b [(-1)] := q42
    subst e42
    refine ask_do rfl fun K hK => ?_
    go_simp
    exact hK _ _ rfl rfl (World.grownBy.refl _ none)
  intro w8 hww8
  intro _ _
  intro _ _
  intro _ _
  intro _ _
  intro v46 h46'
  rintro _ rfl
  simp only [Act.put, List.setIfInBounds_toArray, List.set_cons_zero, List.set_cons_succ]
  have HBd : Hid (Bk w8 w2.heap.size 24 ps.cells) := Lib.hid (Bk.grown HB.out hww8 (by simp))
  have HGd : Hid (w.grownBy w8 none) := Lib.hid ((HG.out).trans hww8)
  have HS3d : Hid (Sl (encP) TT w8 v3 [(5, 2), (7, 5)]) := Lib.hid (Sl.kept HS3.out hww8)
  clear HB
  have HB := HBd
  clear HBd
  clear HG
  have HG := HGd
  clear HGd
  clear HS3
  have HS3 := HS3d
  clear HS3d
  obtain ⟨a46, b46, e46, ha46, hb46⟩ := h46'
  subst e46
  have HA46 : Hid (Sl (encS encI) TT w8 a46 [[1]]) := Lib.hid ha46
  have HBB46 : Hid (Sl encI TT w8 b46 [(-1)]) := Lib.hid hb46
  clear ha46 hb46
  clear hww8
  show wpList Tryz.prog _ _ _ _ w8
  obtain ⟨A46, n46, c46, rfl⟩ := HA46.out.shape
  obtain ⟨D46, m46, d46, rfl⟩ := HBB46.out.shape
  obtain ⟨w9, hww9⟩ : ∃ x, w8.alloc (.cells #[.slice A46 n46 c46, .slice D46 m46 d46] 30) = x := ⟨_, rfl⟩
  have HM9 : Hid (Bk w9 w8.heap.size 30 #[.slice A46 n46 c46, .slice D46 m46 d46]) := Lib.hid (by rw [← hww9]; exact Bk.new _ _ _)
  have HMG9 : Hid (w8.grownBy w9 none) := Lib.hid (by rw [← hww9]; exact World.grownBy_alloc _ _ none)
  have HBd : Hid (Bk w9 w2.heap.size 24 ps.cells) := Lib.hid (Bk.grown HB.out HMG9.out (by simp))
  have HGd : Hid (w.grownBy w9 none) := Lib.hid ((HG.out).trans HMG9.out)
  have HS3d : Hid (Sl (encP) TT w9 v3 [(5, 2), (7, 5)]) := Lib.hid (Sl.kept HS3.out HMG9.out)
  have HA46d : Hid (Sl (encS encI) TT w9 (.slice A46 n46 c46) [[1]]) := Lib.hid (Sl.kept HA46.out HMG9.out)
  have HBB46d : Hid (Sl encI TT w9 (.slice D46 m46 d46) [(-1)]) := Lib.hid (Sl.kept HBB46.out HMG9.out)
  clear HB
  have HB := HBd
  clear HBd
  clear HG
  have HG := HGd
  clear HGd
  clear HS3
  have HS3 := HS3d
  clear HS3d
  clear HA46
  have HA46 := HA46d
  clear HA46d
  clear HBB46
  have HBB46 := HBB46d
  clear HBB46d
  go_upto_region 7 with (fail)
  try rw [hww9]
  clear hww9
  refine wp_region_seqm 6 (by kernel_rfl) ?_
  -- op 0 (slot 49): load
  refine MonoR.step (Pv.eq (ps.v)) [] (by kernel_rfl) (fun w' hw' => ?_) ?_
  · refine ask_do rfl fun K hK => ?_
    have hp := (HB.out.grown hw' (by simp)).prule
    go_simp
    exact hK _ _ rfl rfl (World.grownBy.refl _ none)
  -- op 1 (slot 50): buildSlice
  refine MonoR.step (Pv.sl (encU) TT [2, 0]) [] (by kernel_rfl) (fun w' hw' => ?_) ?_
  · refine ask_do rfl fun K hK => ?_
    go_simp
    exact hK _ _ rfl (Sl.build [[.int .u64 2], [.int .u64 0]] rfl ⟨⟨rfl, ⟨by decide, by decide⟩⟩, ⟨rfl, ⟨by decide, by decide⟩⟩, trivial⟩ rfl (by decide)) (World.grownBy_alloc w' _ none)
  -- op 2 (slot 51): call
  refine MonoR.step (Pv.mtup [] [] 20) [(0, 49), (1, 50)] (by kernel_rfl) (fun w' hw' => ?_) ?_
  · rintro _ rfl
    intro x50 h50
    have h50 : Sl (encU) TT w' x50 [2, 0] := h50
    refine ask_do rfl fun K hK => ?_
    go_simp
    refine (smodel_any ps _ [2, 0] TT w' ps_ok h50 (by decide)).mono ?_
    rintro e w3 ⟨a3, b3, he, h3, k3, _, hg⟩
    rw [(show modelE ps [2, 0] = 20 by decide +kernel)] at he
    rw [(show modelW ps [2, 0] = [] by decide +kernel)] at h3
    rw [(show modelB ps [2, 0] = [] by decide +kernel)] at k3
    subst he
    exact hK _ _ rfl ⟨_, _, rfl, h3.plain.more (fun _ _ _ => trivial), k3.more (fun _ _ _ => trivial)⟩ hg
  -- op 3 (slot 48): move
  refine MonoR.step (Pv.mtup [] [] 20) [(2, 51)] (by kernel_rfl) (fun w' hw' => ?_) ?_
  · intro x51 q51
    obtain ⟨a51, b51, e51, h51, k51⟩ : ∃ a b, x51 = .tuple #[.agg #[a, b], .int .i64 20] ∧ Sl (encS encI) TT w' a [] ∧ Sl encI TT w' b [] := q51
    subst e51
    refine ask_do rfl fun K hK => ?_
    go_simp
    exact hK _ _ rfl ⟨_, _, rfl, h51, k51⟩ (World.grownBy.refl _ none)
  -- op 4 (slot 52): extract
  refine MonoR.step (Pv.model [] []) [(3, 48)] (by kernel_rfl) (fun w' hw' => ?_) ?_
  · intro x48 q48
    obtain ⟨a48, b48, e48, h48, k48⟩ : ∃ a b, x48 = .tuple #[.agg #[a, b], .int .i64 20] ∧ Sl (encS encI) TT w' a [] ∧ Sl encI TT w' b [] := q48
    subst e48
    refine ask_do rfl fun K hK => ?_
    go_simp
    exact hK _ _ rfl ⟨_, _, rfl, h48, k48⟩ (World.grownBy.refl _ none)
  -- op 5 (slot 53): extract
  refine MonoR.step (Pv.eq (.int .i64 20)) [(3, 48)] (by kernel_rfl) (fun w' hw' => ?_) ?_
  · intro x48 q48
    obtain ⟨a48, b48, e48, h48, k48⟩ : ∃ a b, x48 = .tuple #[.agg #[a, b], .int .i64 20] ∧ Sl (encS encI) TT w' a [] ∧ Sl encI TT w' b [] := q48
    subst e48
    refine ask_do rfl fun K hK => ?_
    go_simp
    exact hK _ _ rfl rfl (World.grownBy.refl _ none)
  intro w10 hww10
  intro _ _
  intro _ _
  intro _ _
  intro _ _
  intro v52 h52'
  rintro _ rfl
  simp only [Act.put, List.setIfInBounds_toArray, List.set_cons_zero, List.set_cons_succ]
  have HBd : Hid (Bk w10 w2.heap.size 24 ps.cells) := Lib.hid (Bk.grown HB.out hww10 (by simp))
  have HGd : Hid (w.grownBy w10 none) := Lib.hid ((HG.out).trans hww10)
  have HS3d : Hid (Sl (encP) TT w10 v3 [(5, 2), (7, 5)]) := Lib.hid (Sl.kept HS3.out hww10)
  have HA46d : Hid (Sl (encS encI) TT w10 (.slice A46 n46 c46) [[1]]) := Lib.hid (Sl.kept HA46.out hww10)
  have HBB46d : Hid (Sl encI TT w10 (.slice D46 m46 d46) [(-1)]) := Lib.hid (Sl.kept HBB46.out hww10)
  have HM9d : Hid (Bk w10 w8.heap.size 30 #[.slice A46 n46 c46, .slice D46 m46 d46]) := Lib.hid (Bk.grown HM9.out hww10 (by simp))
  clear HB
  have HB := HBd
  clear HBd
  clear HG
  have HG := HGd
  clear HGd
  clear HS3
  have HS3 := HS3d
  clear HS3d
  clear HA46
  have HA46 := HA46d
  clear HA46d
  clear HBB46
  have HBB46 := HBB46d
  clear HBB46d
  clear HM9
  have HM9 := HM9d
  clear HM9d
  obtain ⟨a52, b52, e52, ha52, hb52⟩ := h52'
  subst e52
  have HA52 : Hid (Sl (encS encI) TT w10 a52 []) := Lib.hid ha52
  have HBB52 : Hid (Sl encI TT w10 b52 []) := Lib.hid hb52
  clear ha52 hb52
  clear hww10
  show wpList Tryz.prog _ _ _ _ w10
  obtain ⟨A52, n52, c52, rfl⟩ := HA52.out.shape
  obtain ⟨D52, m52, d52, rfl⟩ := HBB52.out.shape
  obtain ⟨w11, hww11⟩ : ∃ x, w10.alloc (.cells #[.slice A52 n52 c52, .slice D52 m52 d52] 30) = x := ⟨_, rfl⟩
  have HM11 : Hid (Bk w11 w10.heap.size 30 #[.slice A52 n52 c52, .slice D52 m52 d52]) := Lib.hid (by rw [← hww11]; exact Bk.new _ _ _)
  have HMG11 : Hid (w10.grownBy w11 none) := Lib.hid (by rw [← hww11]; exact World.grownBy_alloc _ _ none)
  have HBd : Hid (Bk w11 w2.heap.size 24 ps.cells) := Lib.hid (Bk.grown HB.out HMG11.out (by simp))
  have HGd : Hid (w.grownBy w11 none) := Lib.hid ((HG.out).trans HMG11.out)
  have HS3d : Hid (Sl (encP) TT w11 v3 [(5, 2), (7, 5)]) := Lib.hid (Sl.kept HS3.out HMG11.out)
  have HA46d : Hid (Sl (encS encI) TT w11 (.slice A46 n46 c46) [[1]]) := Lib.hid (Sl.kept HA46.out HMG11.out)
  have HBB46d : Hid (Sl encI TT w11 (.slice D46 m46 d46) [(-1)]) := Lib.hid (Sl.kept HBB46.out HMG11.out)
  have HM9d : Hid (Bk w11 w8.heap.size 30 #[.slice A46 n46 c46, .slice D46 m46 d46]) := Lib.hid (Bk.grown HM9.out HMG11.out (by simp))
  have HA52d : Hid (Sl (encS encI) TT w11 (.slice A52 n52 c52) []) := Lib.hid (Sl.kept HA52.out HMG11.out)
  have HBB52d : Hid (Sl encI TT w11 (.slice D52 m52 d52) []) := Lib.hid (Sl.kept HBB52.out HMG11.out)
  clear HB
  have HB := HBd
  clear HBd
  clear HG
  have HG := HGd
  clear HGd
  clear HS3
  have HS3 := HS3d
  clear HS3d
  clear HA46
  have HA46 := HA46d
  clear HA46d
  clear HBB46
  have HBB46 := HBB46d
  clear HBB46d
  clear HM9
  have HM9 := HM9d
  clear HM9d
  clear HA52
  have HA52 := HA52d
  clear HA52d
  clear HBB52
  have HBB52 := HBB52d
  clear HBB52d
  go_upto_region 8 with (fail)
  try rw [hww11]
  clear hww11
  refine wp_region_seqm 34 (by kernel_rfl) ?_
  -- op 0 (slot 54): move
  refine MonoR.step (Pv.eq (.int .i64 0)) [] (by kernel_rfl) (fun w' hw' => ?_) ?_
  · refine ask_do rfl fun K hK => ?_
    go_simp
    exact hK _ _ rfl rfl (World.grownBy.refl _ none)
  -- op 1 (slot 55): binOp
  refine MonoR.step (Pv.eq (.bool true)) [(0, 54)] (by kernel_rfl) (fun w' hw' => ?_) ?_
  · rintro _ rfl
    refine ask_do rfl fun K hK => ?_
    go_simp
    exact hK _ _ rfl rfl (World.grownBy.refl _ none)
  -- op 2 (slot 56): move
  refine MonoR.step (Pv.eq (.bool true)) [(1, 55)] (by kernel_rfl) (fun w' hw' => ?_) ?_
  · rintro _ rfl
    refine ask_do rfl fun K hK => ?_
    go_simp
    exact hK _ _ rfl rfl (World.grownBy.refl _ none)
  -- op 3 (slot 57): move
  refine MonoR.step (Pv.sl (encP) TT [(5, 2), (7, 5)]) [(2, 56)] (by kernel_rfl) (fun w' hw' => ?_) ?_
  · rintro _ rfl
    refine ask_do rfl fun K hK => ?_
    go_simp
    exact hK _ _ rfl (HS3.out.kept hw') (World.grownBy.refl _ none)
  -- op 4 (slot 58): build
  refine MonoR.step (Pv.eq (.agg #[.int .u64 5, .int .u64 2])) [(2, 56)] (by kernel_rfl) (fun w' hw' => ?_) ?_
  · rintro _ rfl
    refine ask_do rfl fun K hK => ?_
    go_simp
    exact hK _ _ rfl rfl (World.grownBy.refl _ none)
  -- op 5 (slot 59): build
  refine MonoR.step (Pv.eq (.agg #[.int .u64 7, .int .u64 5])) [(2, 56)] (by kernel_rfl) (fun w' hw' => ?_) ?_
  · rintro _ rfl
    refine ask_do rfl fun K hK => ?_
    go_simp
    exact hK _ _ rfl rfl (World.grownBy.refl _ none)
  -- op 6 (slot 60): buildSlice
  refine MonoR.step (Pv.sl (encP) TT [(5, 2), (7, 5)]) [(2, 56), (4, 58), (5, 59)] (by kernel_rfl) (fun w' hw' => ?_) ?_
  · rintro _ rfl
    rintro _ rfl
    rintro _ rfl
    refine ask_do rfl fun K hK => ?_
    go_simp
    exact hK _ _ rfl (Sl.build [[.int .u64 5, .int .u64 2], [.int .u64 7, .int .u64 5]] rfl ⟨⟨rfl, by decide, by decide⟩, ⟨rfl, by decide, by decide⟩, trivial⟩ rfl (by decide)) (World.grownBy_alloc w' _ none)
  -- op 7 (slot 61): call
  refine MonoR.step (Pv.eq (.bool true)) [(2, 56), (3, 57), (6, 60)] (by kernel_rfl) (fun w' hw' => ?_) ?_
  · rintro _ rfl
    intro x57 h57
    have h57 : Sl (encP) TT w' x57 [(5, 2), (7, 5)] := h57
    intro x60 h60
    have h60 : Sl (encP) TT w' x60 [(5, 2), (7, 5)] := h60
    refine ask_do rfl fun K hK => ?_
    go_simp
    refine (same_eq _ _ [(5, 2), (7, 5)] TT TT w' h57 h60).mono ?_
    rintro e w3 ⟨rfl, m3, rfl⟩
    exact hK _ _ rfl rfl (grown_drewN' w' m3)
  -- op 8 (slot 62): pick
  refine MonoR.step (Pv.eq (.bool true)) [(2, 56), (7, 61)] (by kernel_rfl) (fun w' hw' => ?_) ?_
  · rintro _ rfl
    rintro _ rfl
    refine ask_do rfl fun K hK => ?_
    go_simp
    exact hK _ _ rfl rfl (World.grownBy.refl _ none)
  -- op 9 (slot 63): move
  refine MonoR.step (Pv.eq (.bool true)) [(8, 62)] (by kernel_rfl) (fun w' hw' => ?_) ?_
  · rintro _ rfl
    refine ask_do rfl fun K hK => ?_
    go_simp
    exact hK _ _ rfl rfl (World.grownBy.refl _ none)
  -- op 10 (slot 64): move
  refine MonoR.step (Pv.eq (.int .i64 6)) [(9, 63)] (by kernel_rfl) (fun w' hw' => ?_) ?_
  · rintro _ rfl
    refine ask_do rfl fun K hK => ?_
    go_simp
    exact hK _ _ rfl rfl (World.grownBy.refl _ none)
  -- op 11 (slot 65): binOp
  refine MonoR.step (Pv.eq (.bool true)) [(9, 63), (10, 64)] (by kernel_rfl) (fun w' hw' => ?_) ?_
  · rintro _ rfl
    rintro _ rfl
    refine ask_do rfl fun K hK => ?_
    go_simp
    exact hK _ _ rfl rfl (World.grownBy.refl _ none)
  -- op 12 (slot 66): pick
  refine MonoR.step (Pv.eq (.bool true)) [(9, 63), (11, 65)] (by kernel_rfl) (fun w' hw' => ?_) ?_
  · rintro _ rfl
    rintro _ rfl
    refine ask_do rfl fun K hK => ?_
    go_simp
    exact hK _ _ rfl rfl (World.grownBy.refl _ none)
  -- op 13 (slot 67): move
  refine MonoR.step (Pv.eq (.bool true)) [(12, 66)] (by kernel_rfl) (fun w' hw' => ?_) ?_
  · rintro _ rfl
    refine ask_do rfl fun K hK => ?_
    go_simp
    exact hK _ _ rfl rfl (World.grownBy.refl _ none)
  -- op 14 (slot 68): move
  refine MonoR.step (Pv.eq (.int .i64 1)) [(13, 67)] (by kernel_rfl) (fun w' hw' => ?_) ?_
  · rintro _ rfl
    refine ask_do rfl fun K hK => ?_
    go_simp
    exact hK _ _ rfl rfl (World.grownBy.refl _ none)
  -- op 15 (slot 69): binOp
  refine MonoR.step (Pv.eq (.bool true)) [(13, 67), (14, 68)] (by kernel_rfl) (fun w' hw' => ?_) ?_
  · rintro _ rfl
    rintro _ rfl
    refine ask_do rfl fun K hK => ?_
    go_simp
    exact hK _ _ rfl rfl (World.grownBy.refl _ none)
  -- op 16 (slot 70): pick
  refine MonoR.step (Pv.eq (.bool true)) [(13, 67), (15, 69)] (by kernel_rfl) (fun w' hw' => ?_) ?_
  · rintro _ rfl
    rintro _ rfl
    refine ask_do rfl fun K hK => ?_
    go_simp
    exact hK _ _ rfl rfl (World.grownBy.refl _ none)
  -- op 17 (slot 71): move
  refine MonoR.step (Pv.eq (.bool true)) [(16, 70)] (by kernel_rfl) (fun w' hw' => ?_) ?_
  · rintro _ rfl
    refine ask_do rfl fun K hK => ?_
    go_simp
    exact hK _ _ rfl rfl (World.grownBy.refl _ none)
  -- op 18 (slot 72): move
  refine MonoR.step (Pv.eq (.int .i64 0)) [(17, 71)] (by kernel_rfl) (fun w' hw' => ?_) ?_
  · rintro _ rfl
    refine ask_do rfl fun K hK => ?_
    go_simp
    exact hK _ _ rfl rfl (World.grownBy.refl _ none)
  -- op 19 (slot 73): binOp
  refine MonoR.step (Pv.eq (.bool true)) [(17, 71), (18, 72)] (by kernel_rfl) (fun w' hw' => ?_) ?_
  · rintro _ rfl
    rintro _ rfl
    refine ask_do rfl fun K hK => ?_
    go_simp
    exact hK _ _ rfl rfl (World.grownBy.refl _ none)
  -- op 20 (slot 74): pick
  refine MonoR.step (Pv.eq (.bool true)) [(17, 71), (19, 73)] (by kernel_rfl) (fun w' hw' => ?_) ?_
  · rintro _ rfl
    rintro _ rfl
    refine ask_do rfl fun K hK => ?_
    go_simp
    exact hK _ _ rfl rfl (World.grownBy.refl _ none)
  -- op 21 (slot 75): move
  refine MonoR.step (Pv.eq (.bool true)) [(20, 74)] (by kernel_rfl) (fun w' hw' => ?_) ?_
  · rintro _ rfl
    refine ask_do rfl fun K hK => ?_
    go_simp
    exact hK _ _ rfl rfl (World.grownBy.refl _ none)
  -- op 22 (slot 76): load
  refine MonoR.step (Pv.model [[1]] [(-1)]) [(21, 75)] (by kernel_rfl) (fun w' hw' => ?_) ?_
  · rintro _ rfl
    refine ask_do rfl fun K hK => ?_
    have hm0 := (HM9.out.grown hw' (by simp)).cell 0
    have hm1 := (HM9.out.grown hw' (by simp)).cell 1
    simp at hm0 hm1
    go_simp
    exact hK _ _ rfl ⟨_, _, rfl, HA46.out.kept hw', HBB46.out.kept hw'⟩ (World.grownBy.refl _ none)
  -- op 23 (slot 77): buildSlice
  refine MonoR.step (Pv.sl (encI) TT [1]) [(21, 75)] (by kernel_rfl) (fun w' hw' => ?_) ?_
  · rintro _ rfl
    refine ask_do rfl fun K hK => ?_
    go_simp
    exact hK _ _ rfl (Sl.build [[.int .i64 1]] rfl ⟨⟨rfl, ⟨by decide, by decide⟩⟩, trivial⟩ rfl (by decide)) (World.grownBy_alloc w' _ none)
  -- op 24 (slot 78): buildSlice
  refine MonoR.step (Pv.sl (encS encI) TT [[1]]) [(21, 75), (23, 77)] (by kernel_rfl) (fun w' hw' => ?_) ?_
  · rintro _ rfl
    intro x77 h77
    have h77 : Sl (encI) TT w' x77 [1] := h77
    obtain ⟨A77, c77, e77, k77, l77⟩ := h77.form
    have e77 : x77 = .slice A77 1 c77 := e77
    subst e77
    refine ask_do rfl fun K hK => ?_
    go_simp
    exact hK _ _ rfl (Sl.build [[.slice A77 1 c77]] rfl ⟨⟨_, rfl, h77⟩, trivial⟩ rfl (by decide)) (World.grownBy_alloc w' _ none)
  -- op 25 (slot 79): buildSlice
  refine MonoR.step (Pv.sl (encI) TT [(-1)]) [(21, 75)] (by kernel_rfl) (fun w' hw' => ?_) ?_
  · rintro _ rfl
    refine ask_do rfl fun K hK => ?_
    go_simp
    exact hK _ _ rfl (Sl.build [[.int .i64 (-1)]] rfl ⟨⟨rfl, ⟨by decide, by decide⟩⟩, trivial⟩ rfl (by decide)) (World.grownBy_alloc w' _ none)
  -- op 26 (slot 80): build
  refine MonoR.step (Pv.model [[1]] [(-1)]) [(21, 75), (24, 78), (25, 79)] (by kernel_rfl) (fun w' hw' => ?_) ?_
  · rintro _ rfl
    intro x78 h78
    have h78 : Sl (encS encI) TT w' x78 [[1]] := h78
    obtain ⟨A78, c78, e78, k78, l78⟩ := h78.form
    have e78 : x78 = .slice A78 1 c78 := e78
    subst e78
    intro x79 h79
    have h79 : Sl (encI) TT w' x79 [(-1)] := h79
    obtain ⟨A79, c79, e79, k79, l79⟩ := h79.form
    have e79 : x79 = .slice A79 1 c79 := e79
    subst e79
    refine ask_do rfl fun K hK => ?_
    go_simp
    exact hK _ _ rfl ⟨_, _, rfl, h78, h79⟩ (World.grownBy.refl _ none)
  -- op 27 (slot 81): call
  refine MonoR.step (Pv.eq (.bool true)) [(21, 75), (22, 76), (26, 80)] (by kernel_rfl) (fun w' hw' => ?_) ?_
  · rintro _ rfl
    intro x76 q76
    obtain ⟨a76, b76, e76, h76, k76⟩ : ∃ a b, x76 = .agg #[a, b] ∧ Sl (encS encI) TT w' a [[1]] ∧ Sl encI TT w' b [(-1)] := q76
    subst e76
    intro x80 q80
    obtain ⟨a80, b80, e80, h80, k80⟩ : ∃ a b, x80 = .agg #[a, b] ∧ Sl (encS encI) TT w' a [[1]] ∧ Sl encI TT w' b [(-1)] := q80
    subst e80
    refine ask_do rfl fun K hK => ?_
    go_simp
    refine (models_eq _ _ _ _ [[1]] [(-1)] TT TT TT TT w' h76 k76 h80 k80).mono ?_
    rintro e w3 ⟨rfl, hg⟩
    exact hK _ _ rfl rfl hg
  -- op 28 (slot 82): pick
  refine MonoR.step (Pv.eq (.bool true)) [(21, 75), (27, 81)] (by kernel_rfl) (fun w' hw' => ?_) ?_
  · rintro _ rfl
    rintro _ rfl
    refine ask_do rfl fun K hK => ?_
    go_simp
    exact hK _ _ rfl rfl (World.grownBy.refl _ none)
  -- op 29 (slot 83): move
  refine MonoR.step (Pv.eq (.bool true)) [(28, 82)] (by kernel_rfl) (fun w' hw' => ?_) ?_
  · rintro _ rfl
    refine ask_do rfl fun K hK => ?_
    go_simp
    exact hK _ _ rfl rfl (World.grownBy.refl _ none)
  -- op 30 (slot 84): move
  refine MonoR.step (Pv.eq (.int .i64 20)) [(29, 83)] (by kernel_rfl) (fun w' hw' => ?_) ?_
  · rintro _ rfl
    refine ask_do rfl fun K hK => ?_
    go_simp
    exact hK _ _ rfl rfl (World.grownBy.refl _ none)
  -- op 31 (slot 85): binOp
  refine MonoR.step (Pv.eq (.bool true)) [(29, 83), (30, 84)] (by kernel_rfl) (fun w' hw' => ?_) ?_
  · rintro _ rfl
    rintro _ rfl
    refine ask_do rfl fun K hK => ?_
    go_simp
    exact hK _ _ rfl rfl (World.grownBy.refl _ none)
  -- op 32 (slot 86): pick
  refine MonoR.step (Pv.eq (.bool true)) [(29, 83), (31, 85)] (by kernel_rfl) (fun w' hw' => ?_) ?_
  · rintro _ rfl
    rintro _ rfl
    refine ask_do rfl fun K hK => ?_
    go_simp
    exact hK _ _ rfl rfl (World.grownBy.refl _ none)
  -- op 33 (slot 0): assign
  refine MonoR.step (Pv.eq (.bool true)) [(32, 86)] (by kernel_rfl) (fun w' hw' => ?_) ?_
  · rintro _ rfl
    refine ask_do rfl fun K hK => ?_
    go_simp
    exact hK _ _ rfl rfl (World.grownBy.refl _ none)
  intro w12 hww12
  intro _ _
  intro _ _
  intro _ _
  intro _ _
  intro _ _
  intro _ _
  intro _ _
  intro _ _
  intro _ _
  intro _ _
  intro _ _
  intro _ _
  intro _ _
  intro _ _
  intro _ _
  intro _ _
  intro _ _
  intro _ _
  intro _ _
  intro _ _
  intro _ _
  intro _ _
  intro _ _
  intro _ _
  intro _ _
  intro _ _
  intro _ _
  intro _ _
  intro _ _
  intro _ _
  intro _ _
  intro _ _
  intro _ _
  rintro _ rfl
  simp only [Act.put, List.setIfInBounds_toArray, List.set_cons_zero, List.set_cons_succ]
  have HBd : Hid (Bk w12 w2.heap.size 24 ps.cells) := Lib.hid (Bk.grown HB.out hww12 (by simp))
  have HGd : Hid (w.grownBy w12 none) := Lib.hid ((HG.out).trans hww12)
  have HS3d : Hid (Sl (encP) TT w12 v3 [(5, 2), (7, 5)]) := Lib.hid (Sl.kept HS3.out hww12)
  have HA46d : Hid (Sl (encS encI) TT w12 (.slice A46 n46 c46) [[1]]) := Lib.hid (Sl.kept HA46.out hww12)
  have HBB46d : Hid (Sl encI TT w12 (.slice D46 m46 d46) [(-1)]) := Lib.hid (Sl.kept HBB46.out hww12)
  have HM9d : Hid (Bk w12 w8.heap.size 30 #[.slice A46 n46 c46, .slice D46 m46 d46]) := Lib.hid (Bk.grown HM9.out hww12 (by simp))
  have HA52d : Hid (Sl (encS encI) TT w12 (.slice A52 n52 c52) []) := Lib.hid (Sl.kept HA52.out hww12)
  have HBB52d : Hid (Sl encI TT w12 (.slice D52 m52 d52) []) := Lib.hid (Sl.kept HBB52.out hww12)
  clear HB
  have HB := HBd
  clear HBd
  clear HG
  have HG := HGd
  clear HGd
  clear HS3
  have HS3 := HS3d
  clear HS3d
  clear HA46
  have HA46 := HA46d
  clear HA46d
  clear HBB46
  have HBB46 := HBB46d
  clear HBB46d
  clear HM9
  have HM9 := HM9d
  clear HM9d
  clear HA52
  have HA52 := HA52d
  clear HA52d
  clear HBB52
  have HBB52 := HBB52d
  clear HBB52d
  clear hww12
  refine wpList_nil ?_
  go_wp2
  go_ret
  exact ⟨rfl, HG.out⟩
end Go.Proofs.YtiimippmihkgcaaGreatDoor

namespace Go.Proofs.YtiimippmihkgcaaGreatDoor
open Go Go.RowKit

/-- Numbers do not lie in a block in which no two of them stand side by side. -/
theorem sl_apartU {X : Nat → Prop} {W : World} {v : Value} {S : List Int} (h : Sl encU X W v S) (h2 : 2 ≤ S.length) {b : Nat} {t : TypeId} {cs : Array Value} (hb : Bk W b t cs) (hc : ∀ i a c, cs[i]? = some (.int .u64 a) → cs[i + 1]? = some (.int .u64 c) → False) : Sl encU (fun g => g ≠ b) W v S := by
  obtain ⟨A, c, e, h3, h4, h5⟩ := h
  refine ⟨A, c, e, h3, h4, fun hn => ?_⟩
  obtain ⟨g, o, eA, lt, _, hi⟩ := h5 hn
  refine ⟨g, o, eA, lt, fun eg => ?_, hi⟩
  subst eg
  obtain ⟨c0, ⟨r0, _⟩, k0⟩ := hi 0 (by omega)
  obtain ⟨c1, ⟨r1, _⟩, k1⟩ := hi 1 (by omega)
  have q0 := k0 0 (.int .u64 S[0]) (by rw [r0]; rfl)
  have q1 := k1 0 (.int .u64 S[1]) (by rw [r1]; rfl)
  rw [hb.cell] at q0 q1
  exact hc o _ _ (by simpa [encU] using q0) (by simpa [encU] using q1)
theorem sl_apartI {X : Nat → Prop} {W : World} {v : Value} {S : List Int} (h : Sl encI X W v S) {b : Nat} {t : TypeId} {cs : Array Value} (hb : Bk W b t cs) (hc : ∀ (i : Nat) a, cs[i]? = some (.int .i64 a) → False) : Sl encI (fun g => g ≠ b) W v S := by
  obtain ⟨A, c, e, h3, h4, h5⟩ := h
  refine ⟨A, c, e, h3, h4, fun hn => ?_⟩
  obtain ⟨g, o, eA, lt, _, hi⟩ := h5 hn
  refine ⟨g, o, eA, lt, fun eg => ?_, hi⟩
  subst eg
  obtain ⟨c0, ⟨r0, _⟩, k0⟩ := hi 0 (List.length_pos_iff.2 hn)
  have q0 := k0 0 (.int .i64 (S[0]'(List.length_pos_iff.2 hn))) (by rw [r0]; rfl)
  rw [hb.cell] at q0
  exact hc _ _ q0
theorem sl_apartS {X : Nat → Prop} {W : World} {v : Value} {S : List (List Int)} (h : Sl (encS encI) X W v S) (hr : ∀ r ∈ S, 0 < r.length) {b : Nat} {t : TypeId} {cs : Array Value} (hb : Bk W b t cs) (hc : ∀ (i : Nat) u, cs[i]? = some u → u = .slice none 0 0) : Sl (encS encI) (fun g => g ≠ b) W v S := by
  have hI : ∀ (i : Nat) a, cs[i]? = some (.int .i64 a) → False := fun i a e => by have := hc i _ e; cases this
  obtain ⟨A, c, e, h3, h4, h5⟩ := h
  refine ⟨A, c, e, h3, h4, fun hn => ?_⟩
  obtain ⟨g, o, eA, lt, _, hi⟩ := h5 hn
  refine ⟨g, o, eA, lt, fun eg => ?_, fun i h => ?_⟩
  · subst eg
    obtain ⟨c0, ⟨u, r0, k⟩, k0⟩ := hi 0 (List.length_pos_iff.2 hn)
    have q0 := k0 0 u (by rw [r0]; rfl)
    rw [hb.cell] at q0
    obtain ⟨A', c', e', _⟩ := k.form
    have := hc _ _ q0
    rw [e'] at this
    injection this with _ e2 _
    have := hr _ (List.getElem_mem (List.length_pos_iff.2 hn))
    omega
  · obtain ⟨c0, ⟨u, r0, k⟩, k0⟩ := hi i h
    exact ⟨c0, ⟨u, r0, sl_apartI k hb hI⟩, k0⟩
/-- Where the worlds stand while a model is dealt. -/
def w4Lt (D : World) (seed : Int) (SH : List (List (Int × Int))) : Lt where
  C vs W := D.grownBy W none ∧ match vs with
    | [] => True
    | [u] => ∃ g, u = .pointer (some ⟨g, 0, none⟩) ∧ D.heap.size ≤ g ∧ Bk W g 82 #[.int .u64 seed, .slice none 0 0, .int .i64 0]
    | [_, x] => ∃ a b, x = .tuple #[a, b, .int .i64 0] ∧ Sl (encS encP) TT W a SH
    | _ => False
  R q W W' := match q with
    | 0 => W.grownBy W' none
    | _ => True
  g := fun {vs X Y} ⟨h1, h2⟩ hg => ⟨h1.trans hg, by
    match vs, h2 with
    | [], h2 => exact h2
    | [_], ⟨g, a, b, c⟩ => exact ⟨g, a, b, c.grown hg (by simp)⟩
    | [_, _], ⟨a, b, c, d⟩ => exact ⟨a, b, c, d.kept hg⟩⟩
theorem w4_at {D : World} {seed : Int} {SH : List (List (Int × Int))} {vs : List Value} {W : World} {x : Value} (hC : (w4Lt D seed SH).C vs W) (h : vs[1]? = some x) : ∃ a b, x = .tuple #[a, b, .int .i64 0] := by
  obtain ⟨_, h2⟩ := hC
  match vs, h, h2 with
  | [_, y], h, ⟨a, b, c, _⟩ =>
    have h : some y = some x := h
    injection h with h
    exact ⟨a, b, h ▸ c⟩
def w4S {D : World} {seed : Int} {SH : List (List (Int × Int))} (S : List Int) : Qv (w4Lt D seed SH) where
  p vs v W := vs.length ≤ 1 → Sl encU TT W v S
  fr := 0
  st := fun h hg e => (h e).kept hg
  sr := fun {vs u v w w'} _ _ hR h e => by
    have h0 : vs = [] := by simpa using e
    subst h0
    exact (h (by simp)).kept hR
def w4X {D : World} {seed : Int} {SH : List (List (Int × Int))} : Qv (w4Lt D seed SH) where
  p vs v _ := vs[1]? = some v
  fr := 0
  st := fun h _ => h
  sr := fun {vs u v w w'} _ _ _ h => by
    have := (List.getElem?_eq_some_iff.1 h).1
    rw [List.getElem?_append_left this]
    exact h
def w4E {D : World} {seed : Int} {SH : List (List (Int × Int))} : Qv (w4Lt D seed SH) where
  p vs v _ := ∃ b, vs[1]? = some (.tuple #[v, b, .int .i64 0])
  fr := 0
  st := fun {vs v w w'} ⟨b, h⟩ _ => ⟨b, h⟩
  sr := fun {vs u v w w'} _ _ _ ⟨b, h⟩ => ⟨b, by
    have := (List.getElem?_eq_some_iff.1 h).1
    rw [List.getElem?_append_left this]
    exact h⟩
/-- Where the worlds stand while what came of it is told as a model. -/
def w9Lt (D : World) (ww : List (List Int)) (bb : List Int) : Lt where
  C vs W := D.grownBy W none ∧ match vs with
    | [] => True
    | [u] => ∃ b, u = .pointer (some ⟨b, 0, none⟩) ∧ D.heap.size ≤ b ∧ Bk W b 30 #[.slice none 0 0, .slice none 0 0]
    | [u, _] => ∃ b v1 v2, u = .pointer (some ⟨b, 0, none⟩) ∧ Bk W b 30 #[v1, v2] ∧ Sl (encS encI) TT W v1 ww ∧ Sl encI TT W v2 bb
    | _ => False
  R q W W' := match q with
    | 0 => W.grownBy W' none
    | 1 => ∃ b, Bk W b 30 #[.slice none 0 0, .slice none 0 0] ∧ W.grownBy W' (some b)
    | _ => False
  g := fun {vs X Y} ⟨h1, h2⟩ hg => ⟨h1.trans hg, by
    match vs, h2 with
    | [], h2 => exact h2
    | [_], ⟨g, a, b, c⟩ => exact ⟨g, a, b, c.grown hg (by simp)⟩
    | [_, _], ⟨a, b, c, d, e, f, g⟩ => exact ⟨a, b, c, d, e.grown hg (by simp), f.kept hg, g.kept hg⟩⟩
theorem nil2 : ∀ (i : Nat) u, (#[.slice none 0 0, .slice none 0 0] : Array Value)[i]? = some u → u = .slice none 0 0
  | 0, u, h => by simpa using h.symm
  | 1, u, h => by simpa using h.symm
  | n + 2, u, h => by simp at h
def w9S {D : World} {ww : List (List Int)} {bb : List Int} (S : List Int) (hS : 2 ≤ S.length) : Qv (w9Lt D ww bb) where
  p _ v W := Sl encU TT W v S
  fr := 0
  st := fun h hg => h.kept hg
  sr := fun {vs u v w w'} _ _ hR h => by
    match vs, hR with
    | [], hR => exact h.kept hR
    | [_], hR =>
      obtain ⟨b, hb, hg⟩ : ∃ b, Bk w b 30 #[.slice none 0 0, .slice none 0 0] ∧ w.grownBy w' (some b) := hR
      exact ((sl_apartU h hS hb (fun i a c e _ => by have := nil2 i _ e; cases this)).keep hg (fun g hn e => hn (by injection e with e))).more fun _ _ _ => trivial
    | _ :: _ :: _, hR => exact hR.elim
def w9T {D : World} {ww : List (List Int)} {bb : List Int} (W0 : List (List Int)) (B0 : List Int) : Qv (w9Lt D ww bb) where
  p vs v W := ∃ v1 v2, v = .tuple #[.agg #[v1, v2], .int .i64 0] ∧ (vs.length ≤ 1 → Sl (encS encI) TT W v1 W0 ∧ Sl encI TT W v2 B0)
  fr := 0
  st := fun ⟨v1, v2, e, h⟩ hg => ⟨v1, v2, e, fun k => ⟨(h k).1.kept hg, (h k).2.kept hg⟩⟩
  sr := fun {vs u v w w'} _ _ hR ⟨v1, v2, e, h⟩ => ⟨v1, v2, e, fun k => by
    have h0 : vs = [] := by simpa using k
    subst h0
    exact ⟨(h (by simp)).1.kept hR, (h (by simp)).2.kept hR⟩⟩
def w9A {D : World} {ww : List (List Int)} {bb : List Int} (W0 : List (List Int)) (B0 : List Int) : Qv (w9Lt D ww bb) where
  p vs v W := ∃ v1 v2, v = .agg #[v1, v2] ∧ (vs.length ≤ 1 → Sl (encS encI) TT W v1 W0 ∧ Sl encI TT W v2 B0)
  fr := 0
  st := fun ⟨v1, v2, e, h⟩ hg => ⟨v1, v2, e, fun k => ⟨(h k).1.kept hg, (h k).2.kept hg⟩⟩
  sr := fun {vs u v w w'} _ _ hR ⟨v1, v2, e, h⟩ => ⟨v1, v2, e, fun k => by
    have h0 : vs = [] := by simpa using k
    subst h0
    exact ⟨(h (by simp)).1.kept hR, (h (by simp)).2.kept hR⟩⟩
theorem w9_set {D W : World} {gb : Nat} {v1 v2 : Value} {ww : List (List Int)} {bb : List Int} (hr : ∀ r ∈ ww, 0 < r.length) (g1 : D.grownBy W none) (g2 : D.heap.size ≤ gb) (g3 : Bk W gb 30 #[.slice none 0 0, .slice none 0 0]) (k1 : Sl (encS encI) TT W v1 ww) (k2 : Sl encI TT W v2 bb) :
    W.grownBy ((W.setCell ⟨gb, 0, none⟩ v1).setCell ⟨gb, 1, none⟩ v2) (some gb) ∧ D.grownBy ((W.setCell ⟨gb, 0, none⟩ v1).setCell ⟨gb, 1, none⟩ v2) none ∧ Bk ((W.setCell ⟨gb, 0, none⟩ v1).setCell ⟨gb, 1, none⟩ v2) gb 30 #[v1, v2] ∧ Sl (encS encI) TT ((W.setCell ⟨gb, 0, none⟩ v1).setCell ⟨gb, 1, none⟩ v2) v1 ww ∧ Sl encI TT ((W.setCell ⟨gb, 0, none⟩ v1).setCell ⟨gb, 1, none⟩ v2) v2 bb := by
  have hg := (grownSet W gb 0 v1).trans (grownSet (W.setCell ⟨gb, 0, none⟩ v1) gb 1 v2)
  refine ⟨hg, grown_up g1 hg (fun r e => by injection e with e; omega), (g3.set 0 v1).set 1 v2, ?_, ?_⟩
  · exact ((sl_apartS k1 hr g3 nil2).keep hg (fun g hn e => hn (by injection e with e))).more fun _ _ _ => trivial
  · exact ((sl_apartI k2 g3 (fun i a e => by have := nil2 i _ e; cases this)).keep hg (fun g hn e => hn (by injection e with e))).more fun _ _ _ => trivial
theorem ff_zero {q : Int} {dr : Nat → Int} {T k : Nat} {S : List Int} (hS : ∀ x ∈ S, 0 ≤ x ∧ x < q) : (dealFs S q dr T k S.length).map (fun f => (f[0]?.getD 0) % q) = S := by
  refine List.ext_getElem (by simp [dealFs]) fun i h1 h2 => ?_
  have hb := hS _ (List.getElem_mem h2)
  simp only [dealFs, List.getElem_map, List.getElem_range, dealF, behI]
  rw [List.getElem?_eq_getElem h2]
  simp only [List.getElem?_cons_zero, Option.getD_some]
  rw [Int.emod_eq_of_lt hb.1 hb.2, Int.emod_eq_of_lt hb.1 hb.2]
theorem pick_all {p : Par} {F R : List (List Int)} {N : Nat} {at_ : List Int} (h : ∀ i ∈ at_, 1 ≤ i ∧ i ≤ (N : Int)) : (at_.map fun i => ((List.range N).map fun i : Nat => dealtI p F R ((i : Int) + 1))[(i - 1).toNat]?.getD []) = at_.map (dealtI p F R) := by
  refine List.map_congr_left fun i hi => ?_
  obtain ⟨h1, h2⟩ := h i hi
  rw [List.getElem?_map, List.getElem?_range (by omega)]
  show dealtI p F R (((i - 1).toNat : Int) + 1) = _
  rw [show (((i - 1).toNat : Int) + 1) = i by omega]
end Go.Proofs.YtiimippmihkgcaaGreatDoor

namespace Go.Proofs.YtiimippmihkgcaaGreatDoor
open Go Go.RowKit Go.Shelf

theorem hand_head {x q : Int} {dr : Nat → Int} {t k : Nat} (ht : 1 ≤ t) : ((twoL x q dr t k)[0]?.getD [])[0]?.getD 0 = x % q := by
  have h0 : (twoL x q dr t k)[0]? = some ((behI x q dr (t * t - 1) k).take t) := by simp [twoL, chk, show 0 < t by omega]
  rw [h0, Option.getD_some, List.getElem?_take_of_lt (by omega)]
  rfl
theorem someI_places {k : Nat} {n which : Int} (hn : 1 ≤ n) (hk : (k : Int) ≤ n) : Places n (someI k n which) := places_some k n which hn hk
/-- The worlds of a region that tells a model and lays it. -/
def mTold (ww : List (List Int)) (bb : List Int) (x : Value) (cs : Array Value) (W : World) : Prop := ∃ v1 v2, x = .tuple #[.agg #[v1, v2], .int .i64 0] ∧ cs = #[v1, v2] ∧ Sl (encS encI) TT W v1 ww ∧ Sl encI TT W v2 bb
theorem mOk (D : World) {ww : List (List Int)} (bb : List Int) (hr : ∀ r ∈ ww, 0 < r.length) : BoxOk D none 30 #[.slice none 0 0, .slice none 0 0] (fun _ => True) (mTold ww bb) where
  row := fun r e => by cases e
  pre := fun _ _ => trivial
  told := fun ⟨a, b, e, e2, h1, h2⟩ hg => ⟨a, b, e, e2, h1.kept hg, h2.kept hg⟩
  store := fun ⟨a, b, e, e2, h1, h2⟩ hb _ hg => ⟨a, b, e, e2, ((sl_apartS h1 hr hb nil2).keep hg (fun g hn e => hn (by injection e))).more fun _ _ _ => trivial, ((sl_apartI h2 hb (fun i a e => by have := nil2 i _ e; cases this)).keep hg (fun g hn e => hn (by injection e))).more fun _ _ _ => trivial⟩
def mdLt {D : World} {ww : List (List Int)} {bb : List Int} (ok : BoxOk D none 30 #[.slice none 0 0, .slice none 0 0] (fun _ => True) (mTold ww bb)) : FR.Lt where
  C := BoxC D none 30 #[.slice none 0 0, .slice none 0 0] (fun _ => True) (mTold ww bb)
  R q _ W W' := match q with
    | 0 => W.grownBy W' none
    | 1 => W.grownBy W' none
    | _ => ∃ g, Bk W g 30 #[.slice none 0 0, .slice none 0 0] ∧ W.grownBy W' (some g)
  G W W' := W.grownBy W' none
  g := fun h hg => h.keep ok hg
section
variable {D : World} {ww : List (List Int)} {bb : List Int} {ok : BoxOk D none 30 #[.slice none 0 0, .slice none 0 0] (fun _ => True) (mTold ww bb)}
def mdX : FR.Qv (mdLt ok) := FR.Qv.slot 0
def mdE (f : Value → Value → Prop) : FR.Qv (mdLt ok) where
  p vs v _ := ∃ x, (0, x) ∈ vs ∧ f v x
  st := fun h _ => h
  sr := fun _ _ ⟨x, h, hf⟩ => ⟨x, List.mem_append_left _ h, hf⟩
def mdS {S : List Int} (hS : 2 ≤ S.length) : FR.Qv (mdLt ok) where
  p _ v W := Sl encU TT W v S
  st := fun h hg => h.kept hg
  sr := fun {vs q u v w w'} _ hR h => by
    match q, hR with
    | 0, hR => exact h.kept hR
    | 1, hR => exact h.kept hR
    | q + 2, hR =>
      obtain ⟨g, hb, hg⟩ : ∃ g, Bk w g 30 #[.slice none 0 0, .slice none 0 0] ∧ w.grownBy w' (some g) := hR
      exact ((sl_apartU h hS hb (fun i a c e _ => by have := nil2 i _ e; cases this)).keep hg (fun g hn e => hn (by injection e))).more fun _ _ _ => trivial
end
/-- The first ones that a new member got. -/
def handGot2 (p : Par) (MF MB : Nat → List (List (List Int))) (t n : Nat) (j : Int) : List (List (Int × Int)) := (List.range n).map fun d => (rowsP p.Q (MF d) (MB d) t j).map (atP p.Q 0)
theorem hand_pick {β : Type} {f : Int → List β} {N : Nat} {at_ : List Int} (h : ∀ i ∈ at_, 1 ≤ i ∧ i ≤ (N : Int)) : (at_.map fun i => ((List.range N).map fun k : Nat => f ((k : Int) + 1))[(i - 1).toNat]?.getD []) = at_.map f := by
  refine List.map_congr_left fun i hi => ?_
  obtain ⟨h1, h2⟩ := h i hi
  rw [List.getElem?_map, List.getElem?_range (by omega)]
  show f (((i - 1).toNat : Int) + 1) = _
  rw [show (((i - 1).toNat : Int) + 1) = i by omega]
theorem hand_mat {p : Par} {t nn : Nat} {F B : List (List (List Int))} (h : Squares p.Q t nn F B) : (matI p F B).length = nn ∧ ∀ x ∈ matI p F B, x.length = t := by
  refine ⟨by simp [matI, zipS, h.f.1, h.b.1], fun M hM => ?_⟩
  simp only [matI, zipS, List.map_map, h.f.1, h.b.1, Nat.max_self, List.mem_map, List.mem_range, Function.comp] at hM
  obtain ⟨s, hs, rfl⟩ := hM
  obtain ⟨a, e1, s1⟩ := h.atF hs
  obtain ⟨b, e2, s2⟩ := h.atB hs
  simp only [e1, e2, Option.getD_some]
  exact (coms_rect s1 s2).1
theorem hand_good {p : Par} {t nn N : Nat} {F B : List (List (List Int))} (h : Squares p.Q t nn F B) (hn : 0 < nn) (ht : 0 < t) : DGood (matI p F B, (List.range N).map (fun j : Nat => rowsP p.Q F B t ((j : Int) + 1)), (List.range N).map fun j : Nat => colsP p.Q F B t ((j : Int) + 1)) := by
  refine ⟨fun M hM => ?_, fun M hM => ?_, fun M hM => ?_⟩
  · simp only [matI, zipS, List.map_map, h.f.1, h.b.1, Nat.max_self, List.mem_map, List.mem_range, Function.comp] at hM
    obtain ⟨s, hs, rfl⟩ := hM
    obtain ⟨a, e1, s1⟩ := h.atF hs
    obtain ⟨b, e2, s2⟩ := h.atB hs
    simp only [e1, e2, Option.getD_some]
    obtain ⟨q1, q2⟩ := coms_rect (p := p) s1 s2
    exact ⟨fun e => by rw [e] at q1; simp at q1; omega, fun y hy => ⟨fun e => by have := q2 y hy; rw [e] at this; simp at this; omega, fun _ _ => trivial⟩⟩
  · obtain ⟨j, _, rfl⟩ := List.mem_map.1 hM
    refine ⟨fun e => ?_, fun y hy => ⟨fun e => ?_, fun _ _ => trivial⟩⟩
    · have := congrArg List.length e
      simp [rowsP, h.f.1] at this
      omega
    · obtain ⟨s, _, rfl⟩ := List.mem_map.1 hy
      have := congrArg List.length e
      simp [rowP, zipP] at this
      omega
  · obtain ⟨j, _, rfl⟩ := List.mem_map.1 hM
    refine ⟨fun e => ?_, fun y hy => ⟨fun e => ?_, fun _ _ => trivial⟩⟩
    · have := congrArg List.length e
      simp [colsP, h.f.1] at this
      omega
    · obtain ⟨s, _, rfl⟩ := List.mem_map.1 hy
      have := congrArg List.length e
      simp [colP, zipP] at this
      omega
set_option maxRecDepth 100000 in
set_option maxHeartbeats 8000000 in
theorem shanded_any (p : Par) (v : Value) (l : List Int) (seed which whose : Int) (w : World) (hp : p.ok) (h : Sl encI (fun _ => True) w v l) (hsd : U64 seed) (hwh : I64 which) (hwo : I64 whose) (hT : TabsAt w) :
    Calls Tryz.prog 3 #[p.v, v, .int .u64 seed, .int .i64 which, .int .i64 whose] w fun e w' => e = .returned (.bool true) ∧ w.grownBy w' none := by
  have HP := Lib.hid hp
  have HL := Lib.hid h
  obtain ⟨A, c, rfl, hl1, hl2⟩ := h.form
  have HM := Lib.hid (fun (w' : World) (hg : w.grownBy w' none) => may_any p w' hp (hT.kept hg))
  have HTB := Lib.hid hT
  clear h hp hT
  obtain ⟨n, hnl⟩ : ∃ n, n = l.length := ⟨_, rfl⟩
  have HNL := Lib.hid hnl
  rw [← hnl] at hl1 HL ⊢
  have HB0 : Hid (Bk (w.alloc (Obj.cells p.cells 24)) w.heap.size 24 p.cells) := Lib.hid (Bk.new w _ _)
  have HG0 : Hid (w.grownBy (w.alloc (Obj.cells p.cells 24)) none) := Lib.hid (World.grownBy_alloc w _ none)
  cases hm : mayP p with
  | false =>
    rw [hm] at HM
    clear hm hnl
    go_enter Tryz.func3, Tryz.ntmps3
    go_wp2_with fail
    refine (works20_any _).mono ?_
    rintro e w1 ⟨rfl, hg⟩
    have HG1 := hidTrans hg HG0
    have hp1 := (bkGrown hg HB0).out.prule
    clear hg
    go_wp2_with fail
    refine (HM.out _ HG1.out).mono ?_
    rintro e w2 ⟨rfl, hg⟩
    have HG2 := hidTrans hg HG1
    clear hg
    go_wp2_with fail
    refine (works20_any _).mono ?_
    rintro e w3 ⟨rfl, hg⟩
    have HG3 := hidTrans hg HG2
    clear hg hp1
    go_wp2
    go_ret
    exact ⟨rfl, HG3.out⟩
  | true =>
    rw [hm] at HM
    by_cases hbig : n > 100
    · have hbI : (n : Int) > 100 := by omega
      clear hm hbig hnl
      go_enter Tryz.func3, Tryz.ntmps3
      go_wp2_with fail
      refine (works20_any _).mono ?_
      rintro e w1 ⟨rfl, hg⟩
      have HG1 := hidTrans hg HG0
      have hp1 := (bkGrown hg HB0).out.prule
      clear hg
      go_wp2_with fail
      refine (HM.out _ HG1.out).mono ?_
      rintro e w2 ⟨rfl, hg⟩
      have HG2 := hidTrans hg HG1
      clear hg
      go_wp2_with fail
      refine (works20_any _).mono ?_
      rintro e w3 ⟨rfl, hg⟩
      have HG3 := hidTrans hg HG2
      clear hg hp1
      go_wp2
      go_ret
      exact ⟨rfl, HG3.out⟩
    · have hbI : (n : Int) ≤ 100 := by omega
      have HMAY := Lib.hid hm
      have HN100 : Hid (l.length ≤ 100) := Lib.hid (by omega)
      have HSD := Lib.hid hsd
      have HWH := Lib.hid hwh
      have HWO := Lib.hid hwo
      obtain ⟨hq, hP, ha, n1, n2, n3, t1, t2, t3, hs, k1, d1⟩ := may_apart hm
      obtain ⟨sk1, sk2, sd1, sd2, sM1, sM2, sMQ, _, _, sQ⟩ := may_sizes hm
      have HQP : Hid (0 < p.Q ∧ U64 p.Q) := Lib.hid ⟨mayB_pos hq, HP.out.Q⟩
      have hsec := secretsI_eq hm
      obtain ⟨T, hTT⟩ : ∃ k : Nat, (k : Int) = p.T := ⟨p.T.toNat, by omega⟩
      obtain ⟨N, hNN⟩ : ∃ k : Nat, (k : Int) = p.N := ⟨p.N.toNat, by omega⟩
      have hT1 : 1 ≤ p.T := t1
      have hT2 : p.T ≤ 2 := t2
      have HTN : Hid ((T : Int) = p.T ∧ (N : Int) = p.N ∧ p.N.toNat = N ∧ T ≤ 2 ∧ T + 1 ≤ N ∧ N ≤ 7) := Lib.hid (by omega)
      obtain ⟨S, hS⟩ : ∃ y, y = whoS p l := ⟨_, rfl⟩
      have hSl : (S.length : Int) = secretsI p := by
        have h0 : 0 ≤ secretsI p := by rw [hsec]; exact Int.natCast_nonneg _
        rw [hS]
        unfold whoS
        rw [List.length_map, List.length_range]
        omega
      have hS10 : S.length ≤ 10 ∧ 2 ≤ S.length := by
        have h1 : p.K.toNat * (p.D.toNat + 1) ≤ 2 * 5 := Nat.mul_le_mul (by omega) (by omega)
        have h2 : 1 * 2 ≤ p.K.toNat * (p.D.toNat + 1) := Nat.mul_le_mul (by omega) (by omega)
        omega
      have HS1 : Hid (2 ≤ S.length) := Lib.hid hS10.2
      have HSB : Hid (∀ x ∈ S, 0 ≤ x ∧ x < p.Q) := Lib.hid (fun x hx => by
        rw [hS] at hx
        obtain ⟨a, _, rfl⟩ := List.mem_map.1 hx
        have := HQP.out.1
        exact ⟨Int.emod_nonneg _ (by omega), Int.emod_lt_of_pos _ this⟩)
      have HSL : Hid ((S.length : Int) = secretsI p ∧ S.length ≤ 10) := Lib.hid ⟨hSl, hS10.1⟩
      obtain ⟨t, ht⟩ : ∃ y, y = T + 1 := ⟨_, rfl⟩
      have HT : Hid (t = T + 1 ∧ (t : Int) = p.T + 1 ∧ 2 ≤ t ∧ t ≤ 3 ∧ t ≤ N) := Lib.hid (by omega)
      obtain ⟨DR, hDR⟩ : ∃ y : Nat → Int, y = fun k => drawX p.Q (seedS p.Q seed k) := ⟨_, rfl⟩
      have HTP : Hid (∀ g, Tp g p.Q DR (fun k => TapeIn p seed g k) (fun b => b = g) 1000000) := Lib.hid (fun g => by rw [hDR]; exact tp_own g p.Q seed HSD.out HQP.out.2)
      have HDU : Hid (∀ k, 0 ≤ DR k) := Lib.hid (fun k => ((HTP.out 0).val k).1)
      obtain ⟨nn, hnn⟩ : ∃ y, y = S.length := ⟨_, rfl⟩
      have HNNN : Hid (nn = S.length ∧ (nn : Int) = secretsI p ∧ nn ≤ 10 ∧ 2 ≤ nn) := Lib.hid (by omega)
      obtain ⟨FF, hFF⟩ : ∃ y, y = dealFs S p.Q DR T 0 nn := ⟨_, rfl⟩
      obtain ⟨RR, hRR⟩ : ∃ y, y = dealRs p.Q DR T 0 nn := ⟨_, rfl⟩
      obtain ⟨SH, hSH⟩ : ∃ y, y = (List.range N).map fun i : Nat => dealtI p FF RR ((i : Int) + 1) := ⟨_, rfl⟩
      obtain ⟨AT, hAT⟩ : ∃ y, y = someI ((t : Nat) : Int) p.N which := ⟨_, rfl⟩
      obtain ⟨AT2, hAT2⟩ : ∃ y, y = someI ((t : Nat) : Int) p.N whose := ⟨_, rfl⟩
      obtain ⟨K1, hK1⟩ : ∃ y, y = nn * (2 * T + 1) := ⟨_, rfl⟩
      obtain ⟨PD, hPD⟩ : ∃ y, y = nn * (2 * (t * t - 1)) := ⟨_, rfl⟩
      have HKB : Hid (K1 ≤ 50 ∧ PD ≤ 160 ∧ K1 = nn * (2 * T + 1) ∧ PD = nn * (2 * (t * t - 1))) := Lib.hid (by
        have h := HNNN.out
        have h2 := HTN.out
        have h3 := HT.out
        refine ⟨?_, ?_, hK1, hPD⟩
        · rw [hK1]; exact Nat.le_trans (Nat.mul_le_mul h.2.2.1 (show 2 * T + 1 ≤ 5 by omega)) (by omega)
        · rw [hPD]
          have h4 : t * t ≤ 3 * 3 := Nat.mul_le_mul (by omega) (by omega)
          exact Nat.le_trans (Nat.mul_le_mul h.2.2.1 (show 2 * (t * t - 1) ≤ 16 by omega)) (by omega))
      obtain ⟨XD, hXD⟩ : ∃ y : Nat → List (Int × Int), y = fun d => dealtI p FF RR (AT[d]?.getD 0) := ⟨_, rfl⟩
      obtain ⟨MF, hMF⟩ : ∃ y : Nat → List (List (List Int)), y = fun d => makeFs (XD d) p.Q DR t (K1 + d * PD) nn := ⟨_, rfl⟩
      obtain ⟨MB, hMB⟩ : ∃ y : Nat → List (List (List Int)), y = fun d => makeBs (XD d) p.Q DR t (K1 + d * PD) nn := ⟨_, rfl⟩
      have HSQ : Hid (∀ d, Squares p.Q t nn (MF d) (MB d)) := Lib.hid (fun d => by rw [hMF, hMB]; exact make_squares (by have := HT.out; omega) HQP.out.1 HDU.out)
      have hFl : FF.length = nn := by rw [hFF]; simp [dealFs]
      have HFL : Hid (FF.length = nn ∧ ∀ f ∈ FF, f.length = t) := Lib.hid ⟨hFl, fun f hf => by
        rw [hFF] at hf
        obtain ⟨i, _, rfl⟩ := List.mem_map.1 hf
        rw [ht]
        exact behI_len _ _ _ _ _⟩
      have HXD : Hid (∀ d, XD d = dealtI p FF RR (AT[d]?.getD 0) ∧ (XD d).length = nn) := Lib.hid (fun d => by rw [hXD]; exact ⟨rfl, by simp [dealtI, hFl]⟩)
      have HPL : Hid (Places p.N AT ∧ AT.length = t) := Lib.hid ⟨by rw [hAT]; exact someI_places (by omega) (by omega), by rw [hAT]; simp [someI]⟩
      have HHD : Hid (∀ d s, d < t → s < nn → (((MF d)[s]?.getD [])[0]?.getD [])[0]?.getD 0 = evalI p.Q (FF[s]?.getD []) (AT[d]?.getD 0)) := Lib.hid (fun d s _ hs => by
        have e : (MF d)[s]? = some (makeF (XD d) p.Q DR t (K1 + d * PD) s) := by
          rw [hMF]
          simp [makeFs, hs]
        rw [e, Option.getD_some, makeF, hand_head (by have := HT.out; omega), (HXD.out d).1]
        have hb := evalI_bd hq (FF[s]?.getD []) (AT[d]?.getD 0)
        rw [dealtI, List.getElem?_map, List.getElem?_range (by rw [hFl]; exact hs)]
        exact Int.emod_eq_of_lt hb.1 hb.2)
      have hfz : FF.map (fun f => (f[0]?.getD 0) % p.Q) = S := by rw [hFF, hnn]; exact ff_zero HSB.out
      obtain ⟨CM, hCM⟩ : ∃ y, y = comsL p (handDs p AT MF MB t) := ⟨_, rfl⟩
      have HFITS : Hid (∀ j : Nat, sumE p AT (handGot p MF MB t ((j : Int) + 1)) = 0 ∧ comsE p (handDs p AT MF MB t) = 0 ∧ formedB p CM = true ∧ fitsI p CM ((j : Int) + 1) (handX p AT MF MB t ((j : Int) + 1)) = true) := Lib.hid (fun j => by rw [hCM]; exact hand_fits hm HPL.out.1 HPL.out.2 HNNN.out.2.1 HT.out.2.1 HSQ.out (by omega))
      obtain ⟨PK, hPK⟩ : ∃ y, y = AT2.map (handX p AT MF MB t) := ⟨_, rfl⟩
      have HWS : Hid (sumE p AT2 PK = 0 ∧ (sumL p AT2 PK).map (·.1) = S) := Lib.hid (by
        have h := hand_back hm HPL.out.1 HPL.out.2 HNNN.out.2.1 HT.out.2.1 HSQ.out HFL.out.1 HFL.out.2 HHD.out whose
        rw [hfz, ← hAT2, ← hPK] at h
        exact h)
      have HWM : Hid (modelE p S = 0 ∧ modelW p S = whoW p l ∧ modelB p S = whoB p l) := Lib.hid (by rw [hS]; exact who_model hm l)
      have HWR : Hid (∀ r ∈ whoW p l, 0 < r.length) := Lib.hid (fun r hr => by
        obtain ⟨k, _, rfl⟩ := List.mem_map.1 hr
        simp
        omega)
      have HWL : Hid (((whoW p l).length : Int) = p.K ∧ ((whoB p l).length : Int) = p.K ∧ (∀ r ∈ whoW p l, (r.length : Int) = p.D) ∧ (∀ r ∈ whoW p l, ∀ x ∈ r, farB p.M x = false) ∧ (∀ x ∈ whoB p l, farB p.M x = false)) := Lib.hid (by
        have hfar : ∀ a, farB p.M (drw l p.M a) = false := fun a => by
          have := drw_bd l sM1 a
          have hwr : wrap64 (-p.M) = -p.M := IntWalk.wrap64_in _ ⟨by omega, by omega⟩
          simp [farB, hwr]
          omega
        refine ⟨by simp [whoW]; omega, by simp [whoB]; omega, fun r hr => ?_, fun r hr x hx => ?_, fun x hx => ?_⟩
        · obtain ⟨k, _, rfl⟩ := List.mem_map.1 hr
          simp
          omega
        · obtain ⟨k, _, rfl⟩ := List.mem_map.1 hr
          obtain ⟨d, _, rfl⟩ := List.mem_map.1 hx
          exact hfar _
        · obtain ⟨k, _, rfl⟩ := List.mem_map.1 hx
          exact hfar _)
      have HSEC2 : Hid (secL p.Q (whoW p l) (whoB p l) (whoW p l).length = S) := Lib.hid (by
        rw [hS, ← who_secrets hm l]
        congr 1
        have := HWL.out.1
        omega)
      have HSHL : Hid (SH.length = N ∧ ∀ i (hi : i < SH.length), SH[i] = dealtI p FF RR ((i : Int) + 1)) := Lib.hid (by rw [hSH]; exact ⟨by simp, fun i hi => by simp⟩)
      have HSHE := Lib.hid hSH
      have HFE := Lib.hid hFF
      have HRE := Lib.hid hRR
      have HAE := Lib.hid hAT
      have HAE2 := Lib.hid hAT2
      have HMFE : Hid (∀ d, MF d = makeFs (XD d) p.Q DR t (K1 + d * PD) nn ∧ MB d = makeBs (XD d) p.Q DR t (K1 + d * PD) nn) := Lib.hid (fun d => by rw [hMF, hMB]; exact ⟨rfl, rfl⟩)
      have HCME := Lib.hid hCM
      have HPKE := Lib.hid hPK
      have HATI2 : Hid (∀ i ∈ AT2, 1 ≤ i ∧ i ≤ (N : Int)) := Lib.hid (by rw [hAT2, hNN]; exact someI_in (by omega))
      have HAL2 : Hid (AT2.length = t) := Lib.hid (by rw [hAT2]; simp [someI])
      obtain ⟨RWS, hRWS⟩ : ∃ y : Nat → List (List (List (Int × Int))), y = fun d => (List.range N).map fun j : Nat => rowsP p.Q (MF d) (MB d) t ((j : Int) + 1) := ⟨_, rfl⟩
      obtain ⟨CLS, hCLS⟩ : ∃ y : Nat → List (List (List (Int × Int))), y = fun d => (List.range N).map fun j : Nat => colsP p.Q (MF d) (MB d) t ((j : Int) + 1) := ⟨_, rfl⟩
      obtain ⟨DDD, hDDD⟩ : ∃ y : Nat → DD, y = fun d => (matI p (MF d) (MB d), RWS d, CLS d) := ⟨_, rfl⟩
      have HDDE : Hid (∀ d, DDD d = (matI p (MF d) (MB d), (List.range N).map (fun j : Nat => rowsP p.Q (MF d) (MB d) t ((j : Int) + 1)), (List.range N).map fun j : Nat => colsP p.Q (MF d) (MB d) t ((j : Int) + 1))) := Lib.hid (fun d => by rw [hDDD, hRWS, hCLS])
      have HDG : Hid (∀ d, DGood (DDD d)) := Lib.hid (fun d => by
        rw [HDDE.out d]
        exact hand_good (HSQ.out d) (by have := HNNN.out; omega) (by have := HT.out; omega))
      have hMT : ∀ d, (matI p (MF d) (MB d)).length = nn ∧ ∀ x ∈ matI p (MF d) (MB d), x.length = t := fun d => hand_mat (HSQ.out d)
      have HMT := Lib.hid hMT
      clear hm hbig hq hP ha n1 n2 n3 t1 t2 t3 hs k1 d1 sk1 sk2 sd1 sd2 sM1 sM2 sMQ sQ hsec hTT hNN hS hSl hS10 hDR hFF hRR hSH hAT hAT2 hPK hfz hnl hsd hwh hwo hK1 hPD hXD hMF hMB hFl hCM hnn hT1 hT2 hRWS hCLS hDDD hMT ht
      go_enter Tryz.func3, Tryz.ntmps3
      go_wp2_with fail
      refine (works20_any _).mono ?_
      rintro e w1 ⟨rfl, hg⟩
      have HG1 := hidTrans hg HG0
      have hp1 := (bkGrown hg HB0).out.prule
      have HB1 := bkGrown hg HB0
      clear hg
      go_wp2_with fail
      refine (HM.out _ HG1.out).mono ?_
      rintro e w2 ⟨rfl, hg⟩
      have HG2 := hidTrans hg HG1
      have HB2 := bkGrown hg HB1
      have hp2 := HB2.out.prule
      have HMD := Lib.hid (model20_any p (.slice A n c) l (fun _ => True) w2 HMAY.out (HL.out.kept HG2.out) HN100.out)
      clear hg hp1 HM HB0 HB1
      go_wp2_with fail
      refine HMD.out.mono ?_
      rintro e w3 ⟨vW, vB, rfl, hW, hB, hg⟩
      have HG3 := hidTrans hg HG2
      have HB3 := bkGrown hg HB2
      obtain ⟨AW, nW, cW, rfl⟩ := hW.shape
      obtain ⟨AB, nB, cB, rfl⟩ := hB.shape
      obtain ⟨w3a, hw3a⟩ : ∃ y, y = w3.alloc (Obj.cells #[.slice AW nW cW, .slice AB nB cB] 30) := ⟨_, rfl⟩
      obtain ⟨Bm, hBm⟩ : ∃ y, y = w3.heap.size := ⟨_, rfl⟩
      have HGA : Hid (w3.grownBy w3a none) := Lib.hid (by rw [hw3a]; exact World.grownBy_alloc _ _ none)
      have HBM : Hid (Bk w3a Bm 30 #[.slice AW nW cW, .slice AB nB cB]) := Lib.hid (by rw [hw3a, hBm]; exact Bk.new _ _ _)
      have HB3a : Hid (Bk w3a w.heap.size 24 p.cells) := Lib.hid (HB3.out.grown HGA.out (by simp))
      have HG3a : Hid (w.grownBy w3a none) := Lib.hid (HG3.out.trans HGA.out)
      have HW3a := Lib.hid (hW.kept HGA.out)
      have HV3a := Lib.hid (hB.kept HGA.out)
      clear hg hW hB hp2 HMD
      go_wp2_with fail
      rw [← hw3a, ← hBm]
      clear hw3a hBm
      obtain ⟨gt, hgt⟩ : ∃ y, y = w3a.heap.size := ⟨_, rfl⟩
      refine (new20_any seed w3a).mono ?_
      rintro e w4 ⟨rfl, hw4⟩
      rw [← hgt]
      have HBT : Hid (TapeIn p seed gt 0 w4) := Lib.hid (by rw [hw4, hgt]; exact Bk.new w3a _ _)
      have HGB : Hid (w3a.grownBy w4 none) := Lib.hid (by rw [hw4]; exact World.grownBy_alloc _ _ none)
      have HGT : Hid (w.heap.size ≤ gt ∧ Bm < gt ∧ w.heap.size < gt ∧ w4.heap.size = gt + 1) := Lib.hid ⟨by rw [hgt]; exact HG3a.out.size, by rw [hgt]; exact HBM.out.lt, by rw [hgt]; exact HB3a.out.lt, by rw [hw4, World.size_alloc, hgt]⟩
      have HGT2 : Hid (w3a.heap.size = gt) := Lib.hid hgt.symm
      clear hw4 hgt
      go_upto_region 5 with (fail)
      have HDw : Hid (w3a.grownBy w4.drew none) := Lib.hid (HGB.out.trans (grown_drewN' w4 1))
      have HNW : Hid (w4.drew.heap.size = gt + 1) := Lib.hid HGT.out.2.2.2
      have HG4d : Hid (w.grownBy w4.drew none) := Lib.hid (HG3a.out.trans HDw.out)
      have HOK := Lib.hid (hOk5 p w4.drew gt (by rw [HNW.out]; omega) seed K1 SH (comsI p FF RR))
      have HNE : Hid (∀ b, b < gt → some b ≠ some gt) := Lib.hid (fun b hb e => by injection e with e; omega)
      have HXM : Hid (∀ W, w4.drew.grownBy W (some gt) → Bk W w.heap.size 24 p.cells ∧ Bk W Bm 30 #[.slice AW nW cW, .slice AB nB cB]) := Lib.hid (fun W hg => ⟨(HB3a.out.grown HDw.out (by simp)).grown hg (HNE.out _ HGT.out.2.2.1), (HBM.out.grown HDw.out (by simp)).grown hg (HNE.out _ HGT.out.2.1)⟩)
      have HXS : Hid (∀ W, w4.drew.grownBy W (some gt) → Sl (encS encI) (fun b => b < gt) W (.slice AW nW cW) (whoW p l) ∧ Sl encI (fun b => b < gt) W (.slice AB nB cB) (whoB p l)) := Lib.hid (fun W hg => by
        have hs : w3a.heap.size = gt := HGT2.out
        exact ⟨((HW3a.out.bounded.kept HDw.out).keep hg (fun b hb => HNE.out b (by have := hb.2; omega))).more fun b _ hb => by have := hb.2; omega, ((HV3a.out.bounded.kept HDw.out).keep hg (fun b hb => HNE.out b (by have := hb.2; omega))).more fun b _ hb => by have := hb.2; omega⟩)
      have HLD : Hid (∀ vs W, (callLt HOK.out).C vs W → (∀ o, W.cell? ⟨w.heap.size, o, none⟩ = (#[.int .u64 p.P, .int .u64 p.Q, .int .u64 p.G, .int .u64 p.H, .int .i64 p.Nodes, .int .i64 p.N, .int .i64 p.T, .int .i64 p.K, .int .i64 p.D, .int .i64 p.R, .int .i64 p.M, .int .i64 p.X] : Array Value)[o]?) ∧ W.cell? ⟨Bm, 0, none⟩ = some (.slice AW nW cW) ∧ W.cell? ⟨Bm, 1, none⟩ = some (.slice AB nB cB)) := Lib.hid (fun vs W hC => by
        have hC : CallC _ _ _ _ vs W := hC
        obtain ⟨h1, h2⟩ := HXM.out W hC.g
        exact ⟨h1.prule, by simpa using h2.cell 0, by simpa using h2.cell 1⟩)
      have HSC : Hid (∀ W, w4.drew.grownBy W (some gt) → Calls Tryz.prog 9 #[p.v, .agg #[.slice AW nW cW, .slice AB nB cB]] W (Gives encU (fun g => W.heap.size ≤ g) W S)) := Lib.hid (fun W hg => by
        obtain ⟨h3, h4⟩ := HXS.out W hg
        obtain ⟨q1, q2, q3, q4, q5⟩ := HWL.out
        rw [← HSEC2.out]
        exact fsecrets_any p _ _ (whoW p l) (whoB p l) _ _ W HMAY.out HP.out h3 h4 q1 q2 q3 q4 q5)
      have HDM : Hid (∀ v W, w4.drew.grownBy W (some gt) → TapeIn p seed gt 0 W → Sl encU (fun k => w4.drew.heap.size ≤ k) W v S → Calls Tryz.prog 8 #[p.v, v, .pointer (some ⟨gt, 0, none⟩)] W fun e w' => ∃ a b, e = .returned (.tuple #[a, b, .int .i64 0]) ∧ Sl (encS encP) (fun k => w4.drew.heap.size ≤ k) w' a SH ∧ Sl (encS encU) (fun k => w4.drew.heap.size ≤ k) w' b (comsI p FF RR) ∧ TapeIn p seed gt K1 w' ∧ W.grownBy w' (some gt)) := Lib.hid (fun v W hg hb hs => by
        refine (dmodel_new p v S _ W (HTP.out gt) HP.out HMAY.out (HTB.out.kept (grown_up HG4d.out hg (fun r e => by injection e with e; have := HGT.out.1; omega))) hs (fun b hb => by have := HNW.out; omega) HSL.out.1 0 T HTN.out.1 hb (by
          have h1 := HKB.out
          have h2 := HNNN.out.1
          rw [← h2, ← h1.2.2.1]
          omega)).mono ?_
        rintro e w' ⟨vs, vc, rfl, k1, k2, k3, k4⟩
        have h2 := HNNN.out.1
        refine ⟨vs, vc, rfl, ?_, ?_, ?_, k4⟩
        · rw [HSHE.out, HFE.out, HRE.out, ← HTN.out.2.2.1, h2]
          exact k1.more fun k _ hk => Nat.le_trans hg.size hk
        · rw [HFE.out, HRE.out, h2]
          exact k2.more fun k _ hk => Nat.le_trans hg.size hk
        · rw [HKB.out.2.2.1, h2]
          simpa using k3)
      refine FR.wp_region_late (callLt HOK.out) [5] 13 (by kernel_rfl) (by kernel_rfl) (by kernel_rfl) (CallC.start (HBT.out.grown (grown_drewN' w4 1) (by simp))) ?_
      -- op 0 (slot 54): load
      refine FR.LateR.mono (FR.Qv.eq (p.v)) [] (by kernel_rfl) (by rfl) (fun vs w' hC => ?_) ?_
      · refine FR.askl_do rfl fun K hK => ?_
        have qq := HLD.out vs w' hC
        have hp := qq.1
        have m0 := qq.2.1
        have m1 := qq.2.2
        clear qq
        go_simp
        exact hK _ _ rfl ⟨rfl, World.grownBy.refl _ none⟩
      -- op 1 (slot 55): load
      refine FR.LateR.mono (FR.Qv.eq (p.v)) [] (by kernel_rfl) (by rfl) (fun vs w' hC => ?_) ?_
      · refine FR.askl_do rfl fun K hK => ?_
        have qq := HLD.out vs w' hC
        have hp := qq.1
        have m0 := qq.2.1
        have m1 := qq.2.2
        clear qq
        go_simp
        exact hK _ _ rfl ⟨rfl, World.grownBy.refl _ none⟩
      -- op 2 (slot 56): load
      refine FR.LateR.mono (FR.Qv.eq (.agg #[.slice AW nW cW, .slice AB nB cB])) [] (by kernel_rfl) (by rfl) (fun vs w' hC => ?_) ?_
      · refine FR.askl_do rfl fun K hK => ?_
        have qq := HLD.out vs w' hC
        have hp := qq.1
        have m0 := qq.2.1
        have m1 := qq.2.2
        clear qq
        go_simp
        exact hK _ _ rfl ⟨rfl, World.grownBy.refl _ none⟩
      -- op 3 (slot 57): call
      refine FR.LateR.mono (callS encU S) [(1, 55), (2, 56)] (by kernel_rfl) (by rfl) (fun vs w' hC => ?_) ?_
      · intro x55 h55
        intro x56 h56
        have e55 : x55 = p.v := h55
        clear h55
        subst e55
        have e56 : x56 = .agg #[.slice AW nW cW, .slice AB nB cB] := h56
        clear h56
        subst e56
        refine FR.askl_do rfl fun K hK => ?_
        have hC : CallC _ _ _ _ vs w' := hC
        go_simp
        refine (HSC.out w' hC.g).mono ?_
        rintro e w3 ⟨v3, rfl, hs3, hg3⟩
        exact hK _ _ rfl ⟨hs3.more fun k _ hk => Nat.le_trans hC.g.size hk, hg3⟩
      -- op 4 (slot 58): move
      refine FR.LateR.mono (FR.Qv.eq (.pointer (some ⟨gt, 0, none⟩))) [] (by kernel_rfl) (by rfl) (fun vs w' hC => ?_) ?_
      · refine FR.askl_do rfl fun K hK => ?_
        go_simp
        exact hK _ _ rfl ⟨rfl, World.grownBy.refl _ none⟩
      -- op 5 (slot 59): call
      refine FR.LateR.turn 0 [(0, 54), (3, 57), (4, 58)] (by kernel_rfl) [] rfl (by kernel_rfl) (fun vs w' hn hr hC => ?_) ?_
      · intro x54 h54
        intro x57 h57
        have h57 : Sl encU (fun k => w4.drew.heap.size ≤ k) w' x57 S := h57
        intro x58 h58
        have e54 : x54 = p.v := h54
        clear h54
        subst e54
        have e58 : x58 = .pointer (some ⟨gt, 0, none⟩) := h58
        clear h58
        subst e58
        refine FR.askl_do rfl fun K hK => ?_
        have hC : CallC _ _ _ _ vs w' := hC
        go_simp
        refine (HDM.out x57 w' hC.g (hC.pre hn) h57).mono ?_
        rintro e w3 ⟨va, vb, rfl, k1, k2, k3, k4⟩
        exact hK _ _ rfl ⟨k4, CallC.call hC hn ⟨va, vb, rfl, k1, k2, k3⟩ k4⟩
      -- op 6 (slot 53): move
      refine FR.LateR.mono (callX) [(5, 59)] (by kernel_rfl) (by rfl) (fun vs w' hC => ?_) ?_
      · intro x59 h59
        refine FR.askl_do rfl fun K hK => ?_
        go_simp
        exact hK _ _ rfl ⟨h59, World.grownBy.refl _ none⟩
      -- op 7 (slot 60): extract
      refine FR.LateR.mono (callE hE0) [(6, 53)] (by kernel_rfl) (by rfl) (fun vs w' hC => ?_) ?_
      · intro x53 h53
        have h53 : (0, x53) ∈ vs := h53
        refine FR.askl_do rfl fun K hK => ?_
        have hC : CallC _ _ _ _ vs w' := hC
        obtain ⟨va, vb, rfl, hta, htb, htt⟩ := hC.told _ h53
        go_simp
        exact hK _ _ rfl ⟨⟨_, h53, vb, rfl⟩, World.grownBy.refl _ none⟩
      -- op 8 (slot 61): extract
      refine FR.LateR.mono (callE hE1) [(6, 53)] (by kernel_rfl) (by rfl) (fun vs w' hC => ?_) ?_
      · intro x53 h53
        have h53 : (0, x53) ∈ vs := h53
        refine FR.askl_do rfl fun K hK => ?_
        have hC : CallC _ _ _ _ vs w' := hC
        obtain ⟨va, vb, rfl, hta, htb, htt⟩ := hC.told _ h53
        go_simp
        exact hK _ _ rfl ⟨⟨_, h53, va, rfl⟩, World.grownBy.refl _ none⟩
      -- op 9 (slot 62): extract
      refine FR.LateR.mono (FR.Qv.eq (.int .i64 0)) [(6, 53)] (by kernel_rfl) (by rfl) (fun vs w' hC => ?_) ?_
      · intro x53 h53
        have h53 : (0, x53) ∈ vs := h53
        refine FR.askl_do rfl fun K hK => ?_
        have hC : CallC _ _ _ _ vs w' := hC
        obtain ⟨va, vb, rfl, hta, htb, htt⟩ := hC.told _ h53
        go_simp
        exact hK _ _ rfl ⟨rfl, World.grownBy.refl _ none⟩
      -- op 10 (slot 13): assign
      refine FR.LateR.mono (callE hE0) [(7, 60)] (by kernel_rfl) (by rfl) (fun vs w' hC => ?_) ?_
      · intro x60 h60
        have h60 : ∃ x, (0, x) ∈ vs ∧ hE0 x60 x := h60
        refine FR.askl_do rfl fun K hK => ?_
        go_simp
        exact hK _ _ rfl ⟨h60, World.grownBy.refl _ none⟩
      -- op 11 (slot 14): assign
      refine FR.LateR.mono (callE hE1) [(8, 61)] (by kernel_rfl) (by rfl) (fun vs w' hC => ?_) ?_
      · intro x61 h61
        have h61 : ∃ x, (0, x) ∈ vs ∧ hE1 x61 x := h61
        refine FR.askl_do rfl fun K hK => ?_
        go_simp
        exact hK _ _ rfl ⟨h61, World.grownBy.refl _ none⟩
      -- op 12 (slot 15): assign
      refine FR.LateR.mono (FR.Qv.eq (.int .i64 0)) [(9, 62)] (by kernel_rfl) (by rfl) (fun vs w' hC => ?_) ?_
      · intro x62 h62
        have e62 : x62 = .int .i64 0 := h62
        clear h62
        subst e62
        refine FR.askl_do rfl fun K hK => ?_
        go_simp
        exact hK _ _ rfl ⟨rfl, World.grownBy.refl _ none⟩
      intro vs w5 hvl hC5
      have hC5 : CallC _ _ _ _ vs w5 := hC5
      intro y0 k0 y1 k1 y2 k2 y3 k3 y4 k4 y5 k5 y6 k6 y7 k7 y8 k8 y9 k9 y10 k10 y11 k11 y12 k12
      show wpList Tryz.prog _ _ _ _ w5
      simp only [Act.put, List.setIfInBounds_toArray, List.set_cons_zero, List.set_cons_succ]
      have e12 : y12 = .int .i64 0 := k12
      subst e12
      obtain ⟨x10, hx10, b10, e10⟩ : ∃ x, (0, x) ∈ vs ∧ hE0 y10 x := k10
      obtain ⟨va, vb, eab, hsh, hcm, hti⟩ := hC5.told _ hx10
      obtain ⟨q1, _, _⟩ := tup3 (e10.symm.trans eab)
      subst q1
      have HG5 := Lib.hid hC5.g
      have HTI5 := Lib.hid hti
      obtain ⟨p5, m5⟩ := HXM.out w5 hC5.g
      obtain ⟨W5, V5⟩ := HXS.out w5 hC5.g
      have HP5 := Lib.hid p5
      have HM5 := Lib.hid m5
      have HW5 := Lib.hid W5
      have HV5 := Lib.hid V5
      have HG5w : Hid (w.grownBy w5 none) := Lib.hid (grown_up HG4d.out hC5.g (fun r e => by injection e with e; have := HGT.out.1; omega))
      have HZ5 : Hid (gt + 1 ≤ w5.heap.size) := Lib.hid (by have := hC5.g.size; rw [HNW.out] at this; exact this)
      obtain ⟨AS, cS, eS, _, _⟩ := hsh.form
      rw [HSHL.out.1] at eS
      subst eS
      have HSH5 : Hid (Sl (encS encP) (fun k => gt + 1 ≤ k) w5 (.slice AS N cS) SH) := Lib.hid (by rw [← HNW.out]; exact hsh)
      have hp5 := HP5.out.prule
      clear k0 k1 k2 k3 k4 k5 k6 k7 k8 k9 k11 k12 hvl hC5 e10 eab hsh hcm hti hx10 p5 m5 W5 V5 HLD HSC HDM HXM HXS HBT
      have HSM := Lib.hid (fun W => some_any t p.N which W (by have := HT.out; omega) (by have := HTN.out; have := HT.out; omega) HWH.out)
      rw [← HAE.out, show ((t : Nat) : Int) = p.T + 1 from HT.out.2.1] at HSM
      have hw1 : wrap64 (p.T + 1) = p.T + 1 := IntWalk.wrap64_in _ (by have := HT.out; omega)
      go_wp2_with fail
      refine (HSM.out _).mono ?_
      rintro e w6 ⟨va, rfl, hat, hg⟩
      have HG6 : Hid (w5.grownBy w6 none) := Lib.hid hg
      have HG6w : Hid (w.grownBy w6 none) := Lib.hid (HG5w.out.trans hg)
      have HP6 := bkGrown hg HP5
      have HM6 := bkGrown hg HM5
      have HW6 : Hid (Sl (encS encI) (fun b => b < gt) w6 (.slice AW nW cW) (whoW p l)) := Lib.hid (HW5.out.kept hg)
      have HV6 : Hid (Sl encI (fun b => b < gt) w6 (.slice AB nB cB) (whoB p l)) := Lib.hid (HV5.out.kept hg)
      have HSH6 : Hid (Sl (encS encP) (fun k => gt + 1 ≤ k ∧ k < w6.heap.size) w6 (.slice AS N cS) SH) := Lib.hid ((HSH5.out.kept hg).bounded)
      have HTI6 : Hid (TapeIn p seed gt K1 w6) := Lib.hid (HTI5.out.grown hg (by simp))
      obtain ⟨Aa, ca, ea, _, _⟩ := hat.form
      rw [HPL.out.2] at ea
      subst ea
      have HA6 : Hid (Sl encI (fun k => gt + 1 ≤ k ∧ k < w6.heap.size) w6 (.slice Aa t ca) AT) := Lib.hid (hat.bounded.more fun k _ hk => ⟨by have := HZ5.out; have := hk.1; omega, hk.2⟩)
      have HZ6 : Hid (gt + 1 ≤ w6.heap.size) := Lib.hid (Nat.le_trans HZ5.out HG6.out.size)
      clear hg hat hp5 HG5 HG5w HP5 HM5 HW5 HV5 HSH5 HTI5 HSM
      go_wp2_with fail
      go_loopg [17, 18, 19, 20, 21] t (fun gk s17 s18 s19 s20 s21 wx => ∃ i : Nat, i + gk = t ∧ s19 = .int .i64 (i : Int) ∧ Hid (Side encD encG w6.heap.size 54 48 (fun b => w6.heap.size ≤ b) wx s17 s18 (handDs p AT MF MB i) ((List.range i).map DDD) ∧ TapeIn p seed gt (K1 + i * PD) wx ∧ w6.grownBy wx (some gt)))
      case atStart => exact ⟨0, by omega, rfl, Lib.hid ⟨⟨Acc.nil _ _ _ _ _, Acc.nil _ _ _ _ _⟩, by simpa using HTI6.out, World.grownBy.refl _ _⟩⟩
      case round =>
        obtain ⟨i, hi, rfl, HX⟩ := hrel
        have HSr := Lib.hid HX.out.1
        have HTr := Lib.hid HX.out.2.1
        have HGr := Lib.hid HX.out.2.2
        clear HX
        obtain ⟨A17, n17, c17, rfl⟩ := HSr.out.fst.sl.shape
        obtain ⟨A18, n18, c18, rfl⟩ := HSr.out.snd.sl.shape
        have HNg : Hid (∀ b, gt + 1 ≤ b → some b ≠ some gt) := Lib.hid (fun b hb e => by injection e with e; omega)
        have HAr : Hid (Sl encI (fun k => gt + 1 ≤ k ∧ k < w6.heap.size) wr (.slice Aa t ca) AT) := Lib.hid (HA6.out.keep HGr.out (fun b hb => HNg.out b hb.1))
        have HSHr : Hid (Sl (encS encP) (fun k => gt + 1 ≤ k ∧ k < w6.heap.size) wr (.slice AS N cS) SH) := Lib.hid (HSH6.out.keep HGr.out (fun b hb => HNg.out b hb.1))
        have HPr : Hid (Bk wr w.heap.size 24 p.cells) := Lib.hid (HP6.out.grown HGr.out (HNE.out _ HGT.out.2.2.1))
        have HZr : Hid (w6.heap.size ≤ wr.heap.size) := Lib.hid HGr.out.size
        cases gk with
        | zero =>
          have hit : t = i := by omega
          subst hit
          have hno : ¬ ((t : Int) < (t : Int)) := by omega
          have HGrw : Hid (w.grownBy wr none) := Lib.hid (grown_up HG6w.out HGr.out (fun r e => by injection e with e; have := HGT.out.1; omega))
          have HMr : Hid (Bk wr Bm 30 #[.slice AW nW cW, .slice AB nB cB]) := Lib.hid (HM6.out.grown HGr.out (HNE.out _ HGT.out.2.1))
          have HWr : Hid (Sl (encS encI) TT wr (.slice AW nW cW) (whoW p l)) := Lib.hid ((HW6.out.keep HGr.out (fun b hb => HNE.out b hb)).more fun _ _ _ => trivial)
          have HVr : Hid (Sl encI TT wr (.slice AB nB cB) (whoB p l)) := Lib.hid ((HV6.out.keep HGr.out (fun b hb => HNE.out b hb)).more fun _ _ _ => trivial)
          have HDSr : Hid (Sl encD TT wr (.slice A17 n17 c17) (handDs p AT MF MB t)) := Lib.hid (HSr.out.fst.sl.more fun _ _ _ => trivial)
          have HMDr : Hid (Sl encG TT wr (.slice A18 n18 c18) ((List.range t).map DDD)) := Lib.hid (HSr.out.snd.sl.more fun _ _ _ => trivial)
          have HArr : Hid (Sl encI TT wr (.slice Aa t ca) AT) := Lib.hid (HAr.out.more fun _ _ _ => trivial)
          obtain ⟨A18', cM, e18, _, _⟩ := HMDr.out.form
          rw [List.length_map, List.length_range] at e18
          injection e18 with e18a e18b e18c
          subst e18a e18c
          have e18d := e18b.symm
          clear e18b
          subst e18d
          have hpr := HPr.out.prule
          have HCO := Lib.hid (scoms_any p (.slice A17 n17 c17) (handDs p AT MF MB t) TT wr HP.out HDSr.out (by simp [handDs]; have := HT.out; omega) (fun d hd => by
            obtain ⟨k, _, rfl⟩ := List.mem_map.1 hd
            show (colComsI p (matI p (MF k) (MB k)) 0).length ≤ 100000
            simp only [colComsI, List.length_map, (HMT.out k).1]
            have := HNNN.out
            omega))
          rw [(HFITS.out 0).2.1, ← HCME.out] at HCO
          have HCML : Hid (CM.length ≤ 100000) := Lib.hid (by
            have h := (HFITS.out 0).2.2.1
            have h2 : (CM.length : Int) = secretsI p := by
              unfold formedB allB at h
              simp only [Bool.and_eq_true, decide_eq_true_eq] at h
              exact h.1
            have := HNNN.out
            omega)
          clear HSr HTr HGr HSHr HZr HAr HSH6 HTI6 HA6 HM6 HW6 HV6
          go_wp2_with fail
          refine HCO.out.mono ?_
          rintro e w7 ⟨v22, rfl, h22, hg⟩
          have HG7 := hidTrans hg HGrw
          have HP7 := bkGrown hg HPr
          have HM7 := bkGrown hg HMr
          have HW7 := Lib.hid (HWr.out.kept hg)
          have HV7 := Lib.hid (HVr.out.kept hg)
          have HMD7 := Lib.hid (HMDr.out.kept hg)
          have HA7 := Lib.hid (HArr.out.kept hg)
          have HC7 : Hid (Sl (encS encU) TT w7 v22 CM) := Lib.hid (h22.more fun _ _ _ => trivial)
          obtain ⟨A22, n22, c22, rfl⟩ := h22.shape
          have hp7 := HP7.out.prule
          have HFO := Lib.hid (formed_any p (.slice A22 n22 c22) CM TT w7 HP.out HC7.out)
          rw [(HFITS.out 0).2.2.1] at HFO
          clear hg h22 hpr HCO HGrw HPr HMr HWr HVr HMDr HArr HDSr
          go_wp2_with fail
          refine HFO.out.mono ?_
          rintro e w8 ⟨rfl, hg⟩
          have HG8 := hidTrans hg HG7
          have HP8 := bkGrown hg HP7
          have HM8 := bkGrown hg HM7
          have HW8 := Lib.hid (HW7.out.kept hg)
          have HV8 := Lib.hid (HV7.out.kept hg)
          have HMD8 := Lib.hid (HMD7.out.kept hg)
          have HA8 := Lib.hid (HA7.out.kept hg)
          have HC8 := Lib.hid (HC7.out.kept hg)
          clear hg hp7 HFO HG7 HP7 HM7 HW7 HV7 HMD7 HA7 HC7
          go_wp2_with fail
          go_loopg [24, 25, 26, 27, 28, 29] N (fun gk s24 s25 s26 s27 s28 s29 wx => ∃ j : Nat, j + gk = N ∧ s25 = .int .i64 ((j : Int) + 1) ∧ Hid (Acc (encS encP) w8.heap.size 51 TT wx s24 ((List.range j).map fun k : Nat => handX p AT MF MB t ((k : Int) + 1)) ∧ w8.grownBy wx none))
          case atStart => exact ⟨0, by omega, rfl, Lib.hid ⟨Acc.nil _ _ _ _ _, World.grownBy.refl _ none⟩⟩
          case round =>
            rename World => wj
            obtain ⟨j, hj, rfl, HX⟩ := hrel
            have HACj := Lib.hid HX.out.1
            have HGj := Lib.hid HX.out.2
            clear HX
            obtain ⟨A24, n24, c24, rfl⟩ := HACj.out.sl.shape
            have HPj := Lib.hid (HP8.out.grown HGj.out (by simp))
            have hpj := HPj.out.prule
            cases gk with
            | zero =>
              have hjN : N = j := by omega
              subst hjN
              have hno2 : ¬ ((N : Int) + 1 ≤ p.N) := by have := HTN.out; omega
              have HMj := Lib.hid (HM8.out.grown HGj.out (by simp))
              have HNXj : Hid (Sl (encS encP) TT wj (.slice A24 n24 c24) ((List.range N).map fun k : Nat => handX p AT MF MB t ((k : Int) + 1))) := Lib.hid HACj.out.sl
              have HSM := Lib.hid (fun W => some_any t p.N whose W (by have := HT.out; omega) (by have := HTN.out; have := HT.out; omega) HWO.out)
              rw [← HAE2.out, show ((t : Nat) : Int) = p.T + 1 from HT.out.2.1] at HSM
              have HGjw := Lib.hid (HG8.out.trans HGj.out)
              have HWj := Lib.hid (HW8.out.kept HGj.out)
              have HVj := Lib.hid (HV8.out.kept HGj.out)
              clear HACj HGj
              go_wp2_with fail
              refine (HSM.out _).mono ?_
              rintro e w9 ⟨v30, rfl, h30, hg⟩
              have HG9 := hidTrans hg HGjw
              have HP9 := bkGrown hg HPj
              have HM9 := bkGrown hg HMj
              have HW9 := Lib.hid (HWj.out.kept hg)
              have HV9 := Lib.hid (HVj.out.kept hg)
              have HNX9 := Lib.hid (HNXj.out.kept hg)
              have HB9 : Hid (Sl encI TT w9 v30 AT2) := Lib.hid (h30.more fun _ _ _ => trivial)
              obtain ⟨Ab, nb2, cb2, rfl⟩ := h30.shape
              clear hg h30 hpj HSM HPj HMj HWj HVj HNXj HGjw
              go_upto_region 36 with (fail)
              have HD9 : Hid (w9.grownBy w9.drew none) := Lib.hid (grown_drewN' _ 1)
              have HLP : Hid (∀ W, w9.drew.grownBy W none → ∀ o, W.cell? ⟨w.heap.size, o, none⟩ = (#[.int .u64 p.P, .int .u64 p.Q, .int .u64 p.G, .int .u64 p.H, .int .i64 p.Nodes, .int .i64 p.N, .int .i64 p.T, .int .i64 p.K, .int .i64 p.D, .int .i64 p.R, .int .i64 p.M, .int .i64 p.X] : Array Value)[o]?) := Lib.hid (fun W hg => (HP9.out.grown (HD9.out.trans hg) (by simp)).prule)
              have HPC : Hid (∀ W, w9.drew.grownBy W none → Calls Tryz.prog 18 #[.slice A24 n24 c24, .slice Ab nb2 cb2] W (Gives (encS encP) TT W PK)) := Lib.hid (fun W hg => by
                have h := picked_any (.slice A24 n24 c24) (.slice Ab nb2 cb2) _ AT2 TT TT W (HNX9.out.kept (HD9.out.trans hg)) (HB9.out.kept (HD9.out.trans hg)) (by rw [List.length_map, List.length_range]; exact HATI2.out) (by rw [HAL2.out]; have := HT.out; omega)
                rw [hand_pick HATI2.out, ← HPKE.out] at h
                exact h)
              have HSU : Hid (∀ W x, w9.drew.grownBy W none → Sl (encS encP) TT W x PK → Calls Tryz.prog 16 #[p.v, .slice Ab nb2 cb2, x] W (GivesE encP (fun g => W.heap.size ≤ g) W (sumL p AT2 PK) 0)) := Lib.hid (fun W x hg hx => by
                rw [← HWS.out.1]
                exact sum_any p _ AT2 x PK _ TT W HP.out (HB9.out.kept (HD9.out.trans hg)) hx (by rw [HAL2.out]; have := HT.out; omega) (by rw [HPKE.out, List.length_map, HAL2.out]; have := HT.out; omega))
              refine wp_region_mono 11 (by kernel_rfl) (by kernel_rfl) ?_
              -- op 0 (slot 183): load
              refine MonoR.step (Pv.eq (p.v)) [] (by kernel_rfl) (fun w' hw' => ?_) ?_
              · refine ask_do rfl fun K hK => ?_
                have q0 := HLP.out w' hw'
                go_simp
                exact hK _ _ rfl rfl (World.grownBy.refl _ none)
              -- op 1 (slot 184): move
              refine MonoR.step (Pv.eq (.slice Ab nb2 cb2)) [] (by kernel_rfl) (fun w' hw' => ?_) ?_
              · refine ask_do rfl fun K hK => ?_
                go_simp
                exact hK _ _ rfl rfl (World.grownBy.refl _ none)
              -- op 2 (slot 185): move
              refine MonoR.step (Pv.eq (.slice A24 n24 c24)) [] (by kernel_rfl) (fun w' hw' => ?_) ?_
              · refine ask_do rfl fun K hK => ?_
                go_simp
                exact hK _ _ rfl rfl (World.grownBy.refl _ none)
              -- op 3 (slot 186): move
              refine MonoR.step (Pv.eq (.slice Ab nb2 cb2)) [] (by kernel_rfl) (fun w' hw' => ?_) ?_
              · refine ask_do rfl fun K hK => ?_
                go_simp
                exact hK _ _ rfl rfl (World.grownBy.refl _ none)
              -- op 4 (slot 187): call
              refine MonoR.step (Pv.sl (encS encP) TT PK) [(2, 185), (3, 186)] (by kernel_rfl) (fun w' hw' => ?_) ?_
              · intro x185 h185
                intro x186 h186
                have e185 : x185 = .slice A24 n24 c24 := h185
                clear h185
                subst e185
                have e186 : x186 = .slice Ab nb2 cb2 := h186
                clear h186
                subst e186
                refine ask_do rfl fun K hK => ?_
                go_simp
                refine (HPC.out w' hw').mono ?_
                rintro e w3 ⟨v3, rfl, hs3, hg3⟩
                exact hK _ _ rfl (hs3.more fun _ _ _ => trivial) hg3
              -- op 5 (slot 188): call
              refine MonoR.step (Pv.tup encP (sumL p AT2 PK) 0) [(0, 183), (1, 184), (4, 187)] (by kernel_rfl) (fun w' hw' => ?_) ?_
              · intro x183 h183
                intro x184 h184
                intro x187 h187
                have h187 : Sl (encS encP) TT w' x187 PK := h187
                have e183 : x183 = p.v := h183
                clear h183
                subst e183
                have e184 : x184 = .slice Ab nb2 cb2 := h184
                clear h184
                subst e184
                refine ask_do rfl fun K hK => ?_
                go_simp
                refine (HSU.out w' x187 hw' h187).mono ?_
                rintro e w3 ⟨v3, rfl, hs3, hg3⟩
                exact hK _ _ rfl ⟨_, rfl, hs3.more fun _ _ _ => trivial⟩ hg3
              -- op 6 (slot 182): move
              refine MonoR.step (Pv.tup encP (sumL p AT2 PK) 0) [(5, 188)] (by kernel_rfl) (fun w' hw' => ?_) ?_
              · intro x188 h188
                have h188 : ∃ u, x188 = .tuple #[u, .int .i64 0] ∧ Sl encP TT w' u (sumL p AT2 PK) := h188
                obtain ⟨u188, e188, k188⟩ := h188
                subst e188
                refine ask_do rfl fun K hK => ?_
                go_simp
                exact hK _ _ rfl ⟨u188, rfl, k188⟩ (World.grownBy.refl _ none)
              -- op 7 (slot 189): extract
              refine MonoR.step (Pv.sl (encP) TT (sumL p AT2 PK)) [(6, 182)] (by kernel_rfl) (fun w' hw' => ?_) ?_
              · intro x182 h182
                have h182 : ∃ u, x182 = .tuple #[u, .int .i64 0] ∧ Sl encP TT w' u (sumL p AT2 PK) := h182
                obtain ⟨u182, e182, k182⟩ := h182
                subst e182
                refine ask_do rfl fun K hK => ?_
                go_simp
                exact hK _ _ rfl k182 (World.grownBy.refl _ none)
              -- op 8 (slot 190): extract
              refine MonoR.step (Pv.eq (.int .i64 0)) [(6, 182)] (by kernel_rfl) (fun w' hw' => ?_) ?_
              · intro x182 h182
                have h182 : ∃ u, x182 = .tuple #[u, .int .i64 0] ∧ Sl encP TT w' u (sumL p AT2 PK) := h182
                obtain ⟨u182, e182, k182⟩ := h182
                subst e182
                refine ask_do rfl fun K hK => ?_
                go_simp
                exact hK _ _ rfl rfl (World.grownBy.refl _ none)
              -- op 9 (slot 31): assign
              refine MonoR.step (Pv.sl (encP) TT (sumL p AT2 PK)) [(7, 189)] (by kernel_rfl) (fun w' hw' => ?_) ?_
              · intro x189 h189
                have h189 : Sl (encP) TT w' x189 (sumL p AT2 PK) := h189
                refine ask_do rfl fun K hK => ?_
                go_simp
                exact hK _ _ rfl h189 (World.grownBy.refl _ none)
              -- op 10 (slot 32): assign
              refine MonoR.step (Pv.eq (.int .i64 0)) [(8, 190)] (by kernel_rfl) (fun w' hw' => ?_) ?_
              · intro x190 h190
                have e190 : x190 = .int .i64 0 := h190
                clear h190
                subst e190
                refine ask_do rfl fun K hK => ?_
                go_simp
                exact hK _ _ rfl rfl (World.grownBy.refl _ none)
              
              intro w10 hw10
              intro y0 k0 y1 k1 y2 k2 y3 k3 y4 k4 y5 k5 y6 k6 y7 k7 y8 k8 y9 k9 y10 k10
              refine wpList_nil ?_
              simp only [Act.put, List.setIfInBounds_toArray, List.set_cons_zero, List.set_cons_succ]
              have k9' : Sl encP TT w10 y9 (sumL p AT2 PK) := k9
              have e10 : y10 = .int .i64 0 := k10
              subst e10
              obtain ⟨Ay, ny, cy, rfl⟩ := k9'.shape
              have HX10 := Lib.hid k9'
              have hg10 : w9.grownBy w10 none := HD9.out.trans hw10
              have HG10 := Lib.hid (HG9.out.trans hg10)
              have HP10 := bkGrown hg10 HP9
              have HM10 := bkGrown hg10 HM9
              have HW10 := Lib.hid (HW9.out.kept hg10)
              have HV10 := Lib.hid (HV9.out.kept hg10)
              clear k0 k1 k2 k3 k4 k5 k6 k7 k8 k9 k9' k10 hw10 hg10 HLP HPC HSU HD9 HG9 HP9 HM9 HW9 HV9 HNX9 HB9
              go_upto_region 37 with (fail)
              have HD10 : Hid (w10.grownBy w10.drew none) := Lib.hid (grown_drewN' _ 1)
              have HLP : Hid (∀ W, w10.drew.grownBy W none → ∀ o, W.cell? ⟨w.heap.size, o, none⟩ = (#[.int .u64 p.P, .int .u64 p.Q, .int .u64 p.G, .int .u64 p.H, .int .i64 p.Nodes, .int .i64 p.N, .int .i64 p.T, .int .i64 p.K, .int .i64 p.D, .int .i64 p.R, .int .i64 p.M, .int .i64 p.X] : Array Value)[o]?) := Lib.hid (fun W hg => (HP10.out.grown (HD10.out.trans hg) (by simp)).prule)
              have HVA : Hid (∀ W, w10.drew.grownBy W none → Calls Tryz.prog 20 #[.slice Ay ny cy] W (Gives encU (fun g => W.heap.size ≤ g) W S)) := Lib.hid (fun W hg => by
                have := values_any _ (sumL p AT2 PK) TT W (HX10.out.kept (HD10.out.trans hg)) (by
                  have h := congrArg List.length HWS.out.2
                  rw [List.length_map] at h
                  have := HSL.out.2
                  omega)
                rw [HWS.out.2] at this
                exact this)
              have HMO : Hid (∀ W x, Sl encU TT W x S → Calls Tryz.prog 19 #[p.v, x] W (GivesM (fun g => W.heap.size ≤ g) W (whoW p l) (whoB p l) 0)) := Lib.hid (fun W x hx => by
                have := smodel_any p x S TT W HP.out hx (by have := HSL.out.2; omega)
                rw [HWM.out.1, HWM.out.2.1, HWM.out.2.2] at this
                exact this)
              have HOK := Lib.hid (mOk w10.drew (whoB p l) HWR.out)
              refine FR.wp_region_late (mdLt HOK.out) [3, 7, 8] 10 (by kernel_rfl) (by kernel_rfl) (by kernel_rfl) (BoxC.start trivial) ?_
              -- op 0 (slot 192): load
              refine FR.LateR.mono (FR.Qv.eq (p.v)) [] (by kernel_rfl) (by rfl) (fun vs w' hC => ?_) ?_
              · refine FR.askl_do rfl fun K hK => ?_
                have hC : BoxC _ _ _ _ _ _ vs w' := hC
                have hp := HLP.out w' hC.g
                go_simp
                exact hK _ _ rfl ⟨rfl, World.grownBy.refl _ none⟩
              -- op 1 (slot 193): move
              refine FR.LateR.mono (FR.Qv.eq (.slice Ay ny cy)) [] (by kernel_rfl) (by rfl) (fun vs w' hC => ?_) ?_
              · refine FR.askl_do rfl fun K hK => ?_
                go_simp
                exact hK _ _ rfl ⟨rfl, World.grownBy.refl _ none⟩
              -- op 2 (slot 194): call
              refine FR.LateR.mono (mdS HS1.out) [(1, 193)] (by kernel_rfl) (by rfl) (fun vs w' hC => ?_) ?_
              · intro x193 h193
                have e193 : x193 = .slice Ay ny cy := h193
                clear h193
                subst e193
                refine FR.askl_do rfl fun K hK => ?_
                have hC : BoxC _ _ _ _ _ _ vs w' := hC
                go_simp
                refine (HVA.out w' hC.g).mono ?_
                rintro e w3 ⟨v3, rfl, hs3, hg3⟩
                exact hK _ _ rfl ⟨hs3.more fun _ _ _ => trivial, hg3⟩
              -- op 3 (slot 195): call
              refine FR.LateR.turn 0 [(0, 192), (2, 194)] (by kernel_rfl) [] rfl (by kernel_rfl) (fun vs w' hn hr hC => ?_) ?_
              · intro x192 h192
                intro x194 h194
                have h194 : Sl encU TT w' x194 S := h194
                have e192 : x192 = p.v := h192
                clear h192
                subst e192
                refine FR.askl_do rfl fun K hK => ?_
                have hC : BoxC _ _ _ _ _ _ vs w' := hC
                go_simp
                refine (HMO.out w' x194 h194).mono ?_
                rintro e w3 ⟨va, vb, rfl, k1, k2, _, k3⟩
                exact hK _ _ rfl ⟨k3, BoxC.call HOK.out hC hn (cs := #[va, vb]) ⟨va, vb, rfl, rfl, (Sl.plain k1).more fun _ _ _ => trivial, k2.more fun _ _ _ => trivial⟩ k3⟩
              -- op 4 (slot 191): move
              refine FR.LateR.mono (mdX) [(3, 195)] (by kernel_rfl) (by rfl) (fun vs w' hC => ?_) ?_
              · intro x195 h195
                refine FR.askl_do rfl fun K hK => ?_
                go_simp
                exact hK _ _ rfl ⟨h195, World.grownBy.refl _ none⟩
              -- op 5 (slot 196): extract
              refine FR.LateR.mono (mdE hF0) [(4, 191)] (by kernel_rfl) (by rfl) (fun vs w' hC => ?_) ?_
              · intro x191 h191
                have h191 : (0, x191) ∈ vs := h191
                refine FR.askl_do rfl fun K hK => ?_
                have hC : BoxC _ _ _ _ _ _ vs w' := hC
                obtain ⟨cs, va, vb, rfl, htt⟩ := hC.told _ h191
                go_simp
                exact hK _ _ rfl ⟨⟨_, h191, rfl⟩, World.grownBy.refl _ none⟩
              -- op 6 (slot 197): extract
              refine FR.LateR.mono (FR.Qv.eq (.int .i64 0)) [(4, 191)] (by kernel_rfl) (by rfl) (fun vs w' hC => ?_) ?_
              · intro x191 h191
                have h191 : (0, x191) ∈ vs := h191
                refine FR.askl_do rfl fun K hK => ?_
                have hC : BoxC _ _ _ _ _ _ vs w' := hC
                obtain ⟨cs, va, vb, rfl, htt⟩ := hC.told _ h191
                go_simp
                exact hK _ _ rfl ⟨rfl, World.grownBy.refl _ none⟩
              -- op 7 (slot 33): alloc
              refine FR.LateR.turn 1 [] (by kernel_rfl) [] rfl (by kernel_rfl) (fun vs w' hn hr hC => ?_) ?_
              · refine FR.askl_do rfl fun K hK => ?_
                have hC : BoxC _ _ _ _ _ _ vs w' := hC
                go_simp
                exact hK _ _ rfl ⟨World.grownBy_alloc w' _ none, BoxC.alloc HOK.out hC hn⟩
              -- op 8 (slot None): store
              refine FR.LateR.turn 2 [(7, 33), (5, 196)] (by kernel_rfl) [0, 1] rfl (by kernel_rfl) (fun vs w' hn hr hC => ?_) ?_
              · intro x33 h33
                intro x196 h196
                have h196 : ∃ x, (0, x) ∈ vs ∧ hF0 x196 x := h196
                refine FR.askl_do rfl fun K hK => ?_
                have hC : BoxC _ _ _ _ _ _ vs w' := hC
                obtain ⟨x, hx, hfx⟩ := h196
                obtain ⟨cs, ht⟩ := hC.told _ hx
                have ht' := ht
                obtain ⟨va, vb, e1, e2, hd1, hd2⟩ := ht
                subst e1
                obtain rfl : x196 = .agg #[va, vb] := hF0_eq hfx
                obtain ⟨g, eg, hl, hz, _⟩ := hC.box _ h33
                subst eg
                have hb := hz hn
                have f0 := hb.cell 0
                have f1 := hb.cell 1
                have ff := hb.free
                simp at f0 f1
                have hgg := (grownSet w' g 0 va).trans (grownSet _ g 1 vb)
                have hst := BoxC.stored HOK.out hC hn (u := undef) hx ht' h33 (e2 ▸ (hb.set 0 va).set 1 vb) hgg
                obtain ⟨A1, n1, c1, rfl⟩ := hd1.shape
                obtain ⟨A2, n2, c2, rfl⟩ := hd2.shape
                clear ht' hfx hx hd1 hd2
                go_simp
                exact hK _ _ rfl ⟨⟨g, hb, hgg⟩, hst⟩
              -- op 9 (slot 34): assign
              refine FR.LateR.mono (FR.Qv.eq (.int .i64 0)) [(6, 197)] (by kernel_rfl) (by rfl) (fun vs w' hC => ?_) ?_
              · intro x197 h197
                have e197 : x197 = .int .i64 0 := h197
                clear h197
                subst e197
                refine FR.askl_do rfl fun K hK => ?_
                go_simp
                exact hK _ _ rfl ⟨rfl, World.grownBy.refl _ none⟩
              intro vs w11 hvl hC11
              have hC11 : BoxC _ _ _ _ _ _ vs w11 := hC11
              intro y0 k0 y1 k1 y2 k2 y3 k3 y4 k4 y5 k5 y6 k6 y7 k7 y8 k8 y9 k9
              show wpList Tryz.prog _ _ _ _ w11
              simp only [Act.put, List.setIfInBounds_toArray, List.set_cons_zero, List.set_cons_succ]
              have e9 : y9 = .int .i64 0 := k9
              subst e9
              obtain ⟨g33, x33, cs33, e33, _, hx33, ht33, hb33, hg33⟩ := hC11.fin hvl.2 k7
              subst e33
              obtain ⟨v1, v2, _, ec, hv1, hv2⟩ := ht33
              subst ec
              obtain ⟨A1, n1, c1, rfl⟩ := hv1.shape
              obtain ⟨A2, n2, c2, rfl⟩ := hv2.shape
              have hg11 := HD10.out.trans hg33
              have HG11 : Hid (w.grownBy w11 none) := Lib.hid (HG10.out.trans hg11)
              have m0 := (HM10.out.grown hg11 (by simp)).cell 0
              have m1 := (HM10.out.grown hg11 (by simp)).cell 1
              have x0 := hb33.cell 0
              have x1 := hb33.cell 1
              simp at m0 m1 x0 x1
              have HME := Lib.hid (models_eq _ _ _ _ (whoW p l) (whoB p l) TT TT TT TT w11 hv1 hv2 (HW10.out.kept hg11) (HV10.out.kept hg11))
              clear hb33 hv1 hv2 hg33 hg11 hx33 hvl hC11 k0 k1 k2 k3 k4 k5 k6 k7 k8 k9 HLP HVA HMO
              go_wp2_with fail
              refine HME.out.mono ?_
              rintro e w12 ⟨rfl, hg⟩
              have HG12 := hidTrans hg HG11
              clear hg
              go_wp2
              go_ret
              exact ⟨rfl, HG12.out⟩
            | succ q =>
              have hjI : (j : Int) + 1 ≤ p.N := by have := HTN.out; omega
              have hjN : (j : Int) < (N : Int) := by omega
              have hj0 : (0 : Int) ≤ (j : Int) := Int.natCast_nonneg j
              have hj6 : j ≤ 6 := by have := HTN.out; omega
              have hjw : IntKind.i64.wrap (j : Int) = (j : Int) := IntWalk.i64_in _ (by omega)
              have hju : IntKind.u64.wrap ((j : Int) + 1) = (j : Int) + 1 := IntWalk.u64_in _ (by omega)
              have hji : IntKind.i64.wrap ((j : Int) + 1 + 1) = (j : Int) + 1 + 1 := IntWalk.i64_in _ (by omega)
              have HMDj := Lib.hid (HMD8.out.kept HGj.out)
              have HAj := Lib.hid (HA8.out.kept HGj.out)
              have HCj := Lib.hid (HC8.out.kept HGj.out)
              clear hpj
              have hpj := HPj.out.prule
              go_upto_region 28 with (fail)
              clear hpj
              go_loopg [26, 27] t (fun gk s26 s27 wx => ∃ i : Nat, i + gk = t ∧ s27 = .int .i64 (i : Int) ∧ Hid (Acc (encS encP) wj.heap.size 51 (fun b => wj.heap.size ≤ b) wx s26 (handGot2 p MF MB t i ((j : Int) + 1)) ∧ wj.grownBy wx none))
              case atStart => exact ⟨0, by omega, rfl, Lib.hid ⟨Acc.nil _ _ _ _ _, World.grownBy.refl _ none⟩⟩
              case round =>
                rename World => wi
                obtain ⟨i, hi, rfl, HY⟩ := hrel
                have HACi := Lib.hid HY.out.1
                have HGi := Lib.hid HY.out.2
                clear HY
                obtain ⟨A26, n26, c26, rfl⟩ := HACi.out.sl.shape
                cases gk with
                | zero =>
                  have hit : t = i := by omega
                  subst hit
                  have hno3 : ¬ ((t : Int) < (t : Int)) := by omega
                  have HGOT : Hid (Sl (encS encP) TT wi (.slice A26 n26 c26) (handGot p MF MB t ((j : Int) + 1))) := Lib.hid (HACi.out.sl.more fun _ _ _ => trivial)
                  have HPi := Lib.hid (HPj.out.grown HGi.out (by simp))
                  have hpi := HPi.out.prule
                  have HACi2 := Lib.hid (HACj.out.kept HGi.out)
                  have HGi2 := Lib.hid (HGj.out.trans HGi.out)
                  have HSU := Lib.hid (sum_any p (.slice Aa t ca) AT (.slice A26 n26 c26) (handGot p MF MB t ((j : Int) + 1)) TT TT wi HP.out (HAj.out.kept HGi.out) HGOT.out (by rw [HPL.out.2]; have := HT.out; omega) (by simp [handGot]; have := HT.out; omega))
                  rw [(HFITS.out j).1] at HSU
                  have HCi := Lib.hid (HCj.out.kept HGi.out)
                  clear HACi HGi HGOT
                  go_wp2_with fail
                  refine HSU.out.mono ?_
                  rintro e w9 ⟨v28, rfl, h28, hg⟩
                  have h28 : Sl encP (fun g => wi.heap.size ≤ g) w9 v28 (handX p AT MF MB t ((j : Int) + 1)) := h28
                  have HP9 := bkGrown hg HPi
                  have hp9 := HP9.out.prule
                  have HAC9 := Lib.hid (HACi2.out.kept hg)
                  have HG9 := hidTrans hg HGi2
                  have HC9 := Lib.hid (HCi.out.kept hg)
                  have HX9 := Lib.hid h28
                  obtain ⟨A28, n28, c28, rfl⟩ := h28.shape
                  have HFT := Lib.hid (fits_any p (.slice A22 n22 c22) CM ((j : Int) + 1) (.slice A28 n28 c28) (handX p AT MF MB t ((j : Int) + 1)) TT _ w9 HP.out HC9.out ⟨by omega, by omega⟩ HX9.out HCML.out (by
                    have h : (handX p AT MF MB t ((j : Int) + 1)).length ≤ 10 := by
                      rw [hand_dealt HMAY.out HPL.out.1 HPL.out.2 HNNN.out.2.1 HT.out.2.1 HSQ.out (by omega)]
                      simp [dealtI, handF]
                      exact HNNN.out.2.2.1
                    omega))
                  rw [(HFITS.out j).2.2.2] at HFT
                  have HWI : Hid (w8.heap.size ≤ wi.heap.size ∧ (∀ g, (Value.slice A24 n24 c24).ownBlock = some g → g < wi.heap.size)) := Lib.hid ⟨HGi2.out.size, fun g e => (HACi2.out.lt g e).2⟩
                  clear hg h28 hpi HSU HPi HACi2 HGi2 HCi
                  go_wp2_with fail
                  refine HFT.out.mono ?_
                  rintro e w10 ⟨rfl, hg⟩
                  have HAC10 := Lib.hid (HAC9.out.kept hg)
                  have HG10 := hidTrans hg HG9
                  obtain ⟨y, hy⟩ : ∃ y, y = handX p AT MF MB t ((j : Int) + 1) := ⟨_, rfl⟩
                  have HREP : Hid ((encS encP).rep (fun g => TT g ∧ some g ≠ (Value.slice A24 n24 c24).ownBlock) w10 [.slice A28 n28 c28] y) := Lib.hid ⟨_, rfl, by
                    rw [hy]
                    exact (HX9.out.kept hg).more fun g _ hb => ⟨trivial, fun e => absurd hb (Nat.not_le_of_lt (HWI.out.2 g e.symm))⟩⟩
                  have HSN : Hid (((List.range (j + 1)).map fun k : Nat => handX p AT MF MB t ((k : Int) + 1)) = ((List.range j).map fun k : Nat => handX p AT MF MB t ((k : Int) + 1)) ++ [y]) := Lib.hid (by rw [hy]; exact hsnoc _ j)
                  have HLB : Hid ((((List.range j).map fun k : Nat => handX p AT MF MB t ((k : Int) + 1)).length + 1) * 24 ≤ 140737488355328) := Lib.hid (by simp; omega)
                  clear hg hp9 hy HFT HP9 HAC9 HG9 HC9 HX9 HWI
                  go_wp2_with (at_builtin; refine wpList_pushG rfl (.tmp 171) (.tmp 173) rfl (E := encS encP) (y := y) el_pairs HG10.out HAC10.out (fun _ _ => trivial) HREP.out HLB.out rfl rfl ?_)
                  intro v24 w11 hacc2 hg2 hgo
                  have HFIN : Hid (Acc (encS encP) w8.heap.size 51 TT w11 v24 ((List.range (j + 1)).map fun k : Nat => handX p AT MF MB t ((k : Int) + 1)) ∧ w8.grownBy w11 none) := Lib.hid ⟨by rw [HSN.out]; exact hacc2, hg2⟩
                  clear hacc2 hg2 hgo HAC10 HG10 HREP HSN HLB
                  go_wp2_with fail
                  go_roundg q
                  case measure => omega
                  case rel => exact ⟨j + 1, by omega, by go_num, HFIN⟩
                | succ q2 =>
                  have hiI : (i : Int) < (t : Int) := by omega
                  have hi0 : (0 : Int) ≤ (i : Int) := Int.natCast_nonneg i
                  have hi3 : i ≤ 2 := by have := HT.out; omega
                  have hii : IntKind.i64.wrap ((i : Int) + 1) = (i : Int) + 1 := IntWalk.i64_in _ (by omega)
                  have hiD : i < ((List.range t).map DDD).length := by rw [List.length_map, List.length_range]; omega
                  obtain ⟨gM, oM, cM', ua, ub, ud, eM, _, _, hcA, hcB, hcD, hsA, hsB, hsD⟩ := (HMDj.out.kept HGi.out).atG hiD
                  injection eM with eM1 eM2 eM3
                  clear eM2
                  subst eM1 eM3
                  rw [List.getElem_map, List.getElem_range, HDDE.out i] at hsB
                  have hsB : Sl (encS (encS encP)) TT wi ub ((List.range N).map fun j : Nat => rowsP p.Q (MF i) (MB i) t ((j : Int) + 1)) := hsB
                  have hjR : j < ((List.range N).map fun j : Nat => rowsP p.Q (MF i) (MB i) t ((j : Int) + 1)).length := by rw [List.length_map, List.length_range]; omega
                  obtain ⟨gR, oR, cr, uj, eR, _, _, hcR, hsR⟩ := hsB.atS hjR
                  rw [List.length_map, List.length_range] at eR
                  subst eR
                  rw [List.getElem_map, List.getElem_range] at hsR
                  obtain ⟨Aj, nj, cj, rfl⟩ := hsR.shape
                  have HSR := Lib.hid hsR
                  have HCB := Lib.hid hcB
                  have HCR := Lib.hid hcR
                  obtain ⟨PT, hPT⟩ : ∃ y, y = (rowsP p.Q (MF i) (MB i) t ((j : Int) + 1)).map (atP p.Q 0) := ⟨_, rfl⟩
                  have HPT := Lib.hid hPT
                  have HSN : Hid (handGot2 p MF MB t (i + 1) ((j : Int) + 1) = handGot2 p MF MB t i ((j : Int) + 1) ++ [PT]) := Lib.hid (by rw [hPT]; exact hsnoc _ i)
                  have HLB : Hid (((handGot2 p MF MB t i ((j : Int) + 1)).length + 1) * 24 ≤ 140737488355328) := Lib.hid (by simp [handGot2]; omega)
                  have HPi := Lib.hid (HPj.out.grown HGi.out (by simp))
                  have HD1 : Hid (wi.grownBy wi.drew none) := Lib.hid (grown_drewN' _ 1)
                  have HACd := Lib.hid (HACi.out.kept HD1.out)
                  have HGd : Hid (wj.grownBy wi.drew none) := Lib.hid (HGi.out.trans HD1.out)
                  have HRL : Hid ((rowsP p.Q (MF i) (MB i) t ((j : Int) + 1)).length ≤ 1000 ∧ ∀ c ∈ rowsP p.Q (MF i) (MB i) t ((j : Int) + 1), c.length ≤ 1000) := Lib.hid (by
                    refine ⟨by simp [rowsP, (HSQ.out i).f.1]; have := HNNN.out; omega, fun c hc => ?_⟩
                    obtain ⟨s, _, rfl⟩ := List.mem_map.1 hc
                    simp [rowP, zipP]
                    have := HT.out
                    omega)
                  have HLI : Hid (∀ W, wi.drew.grownBy W none → W.cell? ⟨gM, oM + i * 3 + 1, none⟩ = some (.slice (some ⟨gR, oR, none⟩) N cr) ∧ W.cell? ⟨gR, oR + j, none⟩ = some (.slice Aj nj cj) ∧ W.cell? ⟨w.heap.size, 1, none⟩ = some (.int .u64 p.Q)) := Lib.hid (fun W hg => by
                    have h := HD1.out.trans hg
                    exact ⟨cellK HCB.out h (by simp), cellK HCR.out h (by simp), by simpa using (HPi.out.grown h (by simp)).prule 1⟩)
                  have HAT2 : Hid (∀ W, wi.drew.grownBy W none → Calls Tryz.prog 15 #[.slice Aj nj cj, .int .u64 0, .int .u64 p.Q] W (Gives encP (fun g => W.heap.size ≤ g) W PT)) := Lib.hid (fun W hg => by
                    rw [HPT.out]
                    exact dat_any _ _ _ _ TT W (HSR.out.kept (HD1.out.trans hg)) ⟨by omega, by omega⟩ HRL.out.1 HRL.out.2)
                  obtain ⟨N1, hN1⟩ : ∃ y, y = wi.drew.heap.size := ⟨_, rfl⟩
                  have HN1 := Lib.hid hN1
                  clear hcA hcB hcD hsA hsB hsD hcR hsR hPT hjR hiD HACi HGi hN1
                  go_upto_region 30 with (fail)
                  refine wp_region_mono 14 (by kernel_rfl) (by kernel_rfl) ?_
                  -- op 0 (slot 138): move
                  refine MonoR.step (Pv.eq (.slice A26 n26 c26)) [] (by kernel_rfl) (fun w' hw' => ?_) ?_
                  · refine ask_do rfl fun K hK => ?_
                    go_simp
                    exact hK _ _ rfl rfl (World.grownBy.refl _ none)
                  -- op 1 (slot 139): move
                  refine MonoR.step (Pv.eq (.slice (some ⟨gM, oM, none⟩) t c18)) [] (by kernel_rfl) (fun w' hw' => ?_) ?_
                  · refine ask_do rfl fun K hK => ?_
                    go_simp
                    exact hK _ _ rfl rfl (World.grownBy.refl _ none)
                  -- op 2 (slot 140): move
                  refine MonoR.step (Pv.eq (.int .i64 (i : Int))) [] (by kernel_rfl) (fun w' hw' => ?_) ?_
                  · refine ask_do rfl fun K hK => ?_
                    go_simp
                    exact hK _ _ rfl rfl (World.grownBy.refl _ none)
                  -- op 3 (slot 141): indexAddr
                  refine MonoR.step (Pv.eq (.pointer (some ⟨gM, oM + i * 3, none⟩))) [(1, 139), (2, 140)] (by kernel_rfl) (fun w' hw' => ?_) ?_
                  · intro x139 h139
                    intro x140 h140
                    have e139 : x139 = .slice (some ⟨gM, oM, none⟩) t c18 := h139
                    clear h139
                    subst e139
                    have e140 : x140 = .int .i64 (i : Int) := h140
                    clear h140
                    subst e140
                    refine ask_do rfl fun K hK => ?_
                    go_simp
                    exact hK _ _ rfl rfl (World.grownBy.refl _ none)
                  -- op 4 (slot 142): fieldAddr
                  refine MonoR.step (Pv.eq (.pointer (some ⟨gM, oM + i * 3 + 1, none⟩))) [(3, 141)] (by kernel_rfl) (fun w' hw' => ?_) ?_
                  · intro x141 h141
                    have e141 : x141 = .pointer (some ⟨gM, oM + i * 3, none⟩) := h141
                    clear h141
                    subst e141
                    refine ask_do rfl fun K hK => ?_
                    go_simp
                    exact hK _ _ rfl rfl (World.grownBy.refl _ none)
                  -- op 5 (slot 143): load
                  refine MonoR.step (Pv.eq (.slice (some ⟨gR, oR, none⟩) N cr)) [(4, 142)] (by kernel_rfl) (fun w' hw' => ?_) ?_
                  · intro x142 h142
                    have e142 : x142 = .pointer (some ⟨gM, oM + i * 3 + 1, none⟩) := h142
                    clear h142
                    subst e142
                    refine ask_do rfl fun K hK => ?_
                    have qq := HLI.out w' hw'
                    have q0 := qq.1
                    have q1 := qq.2.1
                    have q2 := qq.2.2
                    clear qq
                    go_simp
                    exact hK _ _ rfl rfl (World.grownBy.refl _ none)
                  -- op 6 (slot 144): move
                  refine MonoR.step (Pv.eq (.int .i64 ((j : Int) + 1))) [] (by kernel_rfl) (fun w' hw' => ?_) ?_
                  · refine ask_do rfl fun K hK => ?_
                    go_simp
                    exact hK _ _ rfl rfl (World.grownBy.refl _ none)
                  -- op 7 (slot 145): binOp
                  refine MonoR.step (Pv.eq (.int .i64 (j : Int))) [(6, 144)] (by kernel_rfl) (fun w' hw' => ?_) ?_
                  · intro x144 h144
                    have e144 : x144 = .int .i64 ((j : Int) + 1) := h144
                    clear h144
                    subst e144
                    refine ask_do rfl fun K hK => ?_
                    go_simp
                    exact hK _ _ rfl rfl (World.grownBy.refl _ none)
                  -- op 8 (slot 146): indexAddr
                  refine MonoR.step (Pv.eq (.pointer (some ⟨gR, oR + j, none⟩))) [(5, 143), (7, 145)] (by kernel_rfl) (fun w' hw' => ?_) ?_
                  · intro x143 h143
                    intro x145 h145
                    have e143 : x143 = .slice (some ⟨gR, oR, none⟩) N cr := h143
                    clear h143
                    subst e143
                    have e145 : x145 = .int .i64 (j : Int) := h145
                    clear h145
                    subst e145
                    refine ask_do rfl fun K hK => ?_
                    go_simp
                    exact hK _ _ rfl rfl (World.grownBy.refl _ none)
                  -- op 9 (slot 147): load
                  refine MonoR.step (Pv.eq (.slice Aj nj cj)) [(8, 146)] (by kernel_rfl) (fun w' hw' => ?_) ?_
                  · intro x146 h146
                    have e146 : x146 = .pointer (some ⟨gR, oR + j, none⟩) := h146
                    clear h146
                    subst e146
                    refine ask_do rfl fun K hK => ?_
                    have qq := HLI.out w' hw'
                    have q0 := qq.1
                    have q1 := qq.2.1
                    have q2 := qq.2.2
                    clear qq
                    go_simp
                    exact hK _ _ rfl rfl (World.grownBy.refl _ none)
                  -- op 10 (slot 148): fieldAddr
                  refine MonoR.step (Pv.eq (.pointer (some ⟨w.heap.size, 1, none⟩))) [] (by kernel_rfl) (fun w' hw' => ?_) ?_
                  · refine ask_do rfl fun K hK => ?_
                    go_simp
                    exact hK _ _ rfl rfl (World.grownBy.refl _ none)
                  -- op 11 (slot 149): load
                  refine MonoR.step (Pv.eq (.int .u64 p.Q)) [(10, 148)] (by kernel_rfl) (fun w' hw' => ?_) ?_
                  · intro x148 h148
                    have e148 : x148 = .pointer (some ⟨w.heap.size, 1, none⟩) := h148
                    clear h148
                    subst e148
                    refine ask_do rfl fun K hK => ?_
                    have qq := HLI.out w' hw'
                    have q0 := qq.1
                    have q1 := qq.2.1
                    have q2 := qq.2.2
                    clear qq
                    go_simp
                    exact hK _ _ rfl rfl (World.grownBy.refl _ none)
                  -- op 12 (slot 150): call
                  refine MonoR.step (slP N1 PT) [(9, 147), (11, 149)] (by kernel_rfl) (fun w' hw' => ?_) ?_
                  · intro x147 h147
                    intro x149 h149
                    have e147 : x147 = .slice Aj nj cj := h147
                    clear h147
                    subst e147
                    have e149 : x149 = .int .u64 p.Q := h149
                    clear h149
                    subst e149
                    refine ask_do rfl fun K hK => ?_
                    go_simp
                    refine (HAT2.out w' hw').mono ?_
                    rintro e w3 ⟨v3, rfl, hs3, hg3⟩
                    exact hK _ _ rfl (hs3.more fun b _ hb => Nat.le_trans (by rw [HN1.out]; exact hw'.size) hb) hg3
                  -- op 13 (slot 151): buildSlice
                  refine MonoR.step (blkP N1 PT) [(12, 150)] (by kernel_rfl) (fun w' hw' => ?_) ?_
                  · intro x150 h150
                    have h150 : Sl encP (fun b => N1 ≤ b) w' x150 PT := h150
                    obtain ⟨A150, c150, e150, k150, l150⟩ := h150.form
                    subst e150
                    refine ask_do rfl fun K hK => ?_
                    go_simp
                    exact hK _ _ rfl ⟨_, _, _, _, rfl, Bk.new w' _ _, h150.kept (World.grownBy_alloc w' _ none)⟩ (World.grownBy_alloc w' _ none)
                  
                  intro w9 hw9
                  intro y0 k0 y1 k1 y2 k2 y3 k3 y4 k4 y5 k5 y6 k6 y7 k7 y8 k8 y9 k9 y10 k10 y11 k11 y12 k12 y13 k13
                  show wpList Tryz.prog _ _ _ _ w9
                  simp only [Act.put, List.setIfInBounds_toArray, List.set_cons_zero, List.set_cons_succ]
                  have e0 : y0 = .slice A26 n26 c26 := k0
                  subst e0
                  have k13' : ∃ A n c b, y13 = .slice (some ⟨b, 0, none⟩) 1 1 ∧ Bk w9 b 51 #[.slice A n c] ∧ Sl encP (fun b => N1 ≤ b) w9 (.slice A n c) PT := k13
                  obtain ⟨Ay, ny, cy, by', ey, hky, hsy⟩ := k13'
                  subst ey
                  have HA9 := Lib.hid (HACd.out.kept hw9)
                  have HG9 : Hid (wj.grownBy w9 none) := Lib.hid (HGd.out.trans hw9)
                  have HKY := Lib.hid hky
                  have HZ9 : Hid (wj.heap.size ≤ w9.heap.size) := Lib.hid HG9.out.size
                  have HREP : Hid ((encS encP).rep (fun b => wj.heap.size ≤ b ∧ some b ≠ (Value.slice A26 n26 c26).ownBlock) w9 [.slice Ay ny cy] PT) := Lib.hid ⟨_, rfl, hsy.more fun b _ hb => by
                    rw [HN1.out] at hb
                    exact ⟨Nat.le_trans HGd.out.size hb, fun e => absurd hb (Nat.not_le_of_lt (HACd.out.lt b e.symm).2)⟩⟩
                  clear hky hsy k0 k1 k2 k3 k4 k5 k6 k7 k8 k9 k10 k11 k12 k13 hw9 HACd HGd HN1 HLI HAT2
                  refine wpList_plain rfl fun K hK => ?_
                  refine pushAt_core (E := encS encP) (y := PT) el_pairs HA9.out HREP.out (Bk.one HKY.out) HLB.out HZ9.out (fun g h => Nat.le_trans HZ9.out h) (.tmp 138) (.tmp 151) rfl rfl rfl ?_
                  intro v26 w10 ha hgr hm
                  refine hK _ _ ?_
                  clear hK
                  have HFIN : Hid (Acc (encS encP) wj.heap.size 51 (fun b => wj.heap.size ≤ b) w10 v26 (handGot2 p MF MB t (i + 1) ((j : Int) + 1)) ∧ wj.grownBy w10 none) := Lib.hid ⟨by rw [HSN.out]; exact ha, grown_up HG9.out hgr (fun b e => (HA9.out.lt b e).1)⟩
                  clear ha hgr hm HA9 HG9 HREP HKY HZ9
                  go_wp2_with fail
                  go_roundg q2
                  case measure => omega
                  case rel => exact ⟨i + 1, by omega, by go_num, HFIN⟩
        | succ q =>
          have hiI : (i : Int) < (t : Int) := by omega
          have hi0 : (0 : Int) ≤ (i : Int) := Int.natCast_nonneg i
          have hii : IntKind.i64.wrap ((i : Int) + 1) = (i : Int) + 1 := IntWalk.i64_in _ (by have := HT.out; omega)
          have hiA : i < AT.length := by rw [HPL.out.2]; omega
          have hi3 : i ≤ 2 := by have := HT.out; omega
          obtain ⟨ga, oa, ca', eA, _, _, hca, hia⟩ := HAr.out.atI hiA
          injection eA with eA1 eA2 eA3
          clear eA2
          subst eA1 eA3
          have hin := HPL.out.1.1 _ (List.getElem_mem hiA)
          obtain ⟨a, ha⟩ : ∃ a : Nat, AT[i] = (a : Int) + 1 := ⟨(AT[i] - 1).toNat, by omega⟩
          have haN : a < N := by have := HTN.out; omega
          have haI : (a : Int) < (N : Int) := by omega
          have ha0 : (0 : Int) ≤ (a : Int) := Int.natCast_nonneg a
          have haw : IntKind.i64.wrap (a : Int) = (a : Int) := IntWalk.i64_in _ (by have := HTN.out; omega)
          have haS : a < SH.length := by rw [HSHL.out.1]; exact haN
          obtain ⟨gS, oS, cS', uS, eS, _, hSX, hcS, hsS⟩ := HSHr.out.atS haS
          injection eS with eS1 eS2 eS3
          clear eS2
          subst eS1 eS3
          have hXi : SH[a] = XD i := by
            rw [HSHL.out.2 a haS, (HXD.out i).1, List.getElem?_eq_getElem hiA, Option.getD_some, ha]
          rw [hXi] at hsS
          obtain ⟨Ax, nx, cx, rfl⟩ := hsS.shape
          rw [ha] at hca
          have HCA := Lib.hid hca
          have HCS := Lib.hid hcS
          have HSS := Lib.hid hsS
          have HGX : Hid (gt + 1 ≤ gS ∧ gt + 1 ≤ ga) := Lib.hid ⟨hSX.1, by
            obtain ⟨_, _, _, e, _, hX, _⟩ := HAr.out.atI hiA
            injection e with e _ _
            injection e with e
            injection e with e _ _
            rw [e]
            exact hX.1⟩
          have HATI : Hid (AT[i]?.getD 0 = (a : Int) + 1 ∧ I64 ((a : Int) + 1)) := Lib.hid ⟨by rw [List.getElem?_eq_getElem hiA, Option.getD_some, ha], by rw [← ha]; exact hia⟩
          have HD1 : Hid (wr.grownBy wr.drew none) := Lib.hid (grown_drewN' _ 1)
          have HOK := Lib.hid (hOk14 p wr.drew gt (by have h1 := HZ6.out; have h2 := HZr.out; show gt < wr.heap.size; omega) seed (K1 + i * PD) (K1 + (i + 1) * PD) (HDG.out i))
          have HLD : Hid (∀ vs W, (boxLt HOK.out).C vs W → (∀ o, W.cell? ⟨w.heap.size, o, none⟩ = (#[.int .u64 p.P, .int .u64 p.Q, .int .u64 p.G, .int .u64 p.H, .int .i64 p.Nodes, .int .i64 p.N, .int .i64 p.T, .int .i64 p.K, .int .i64 p.D, .int .i64 p.R, .int .i64 p.M, .int .i64 p.X] : Array Value)[o]?) ∧ W.cell? ⟨ga, oa + i, none⟩ = some (.int .i64 ((a : Int) + 1)) ∧ W.cell? ⟨gS, oS + a, none⟩ = some (.slice Ax nx cx)) := Lib.hid (fun vs W hC => by
            have hC : BoxC _ _ _ _ _ _ vs W := hC
            exact ⟨((HPr.out.grown HD1.out (by simp)).grown hC.g (HNE.out _ HGT.out.2.2.1)).prule, cellK (cellK HCA.out HD1.out (by simp)) hC.g (HNg.out _ HGX.out.2), cellK (cellK HCS.out HD1.out (by simp)) hC.g (HNg.out _ HGX.out.1)⟩)
          have HMK : Hid (∀ W, wr.drew.grownBy W (some gt) → TapeIn p seed gt (K1 + i * PD) W → Calls Tryz.prog 11 #[p.v, .slice Ax nx cx, .int .i64 p.N, .pointer (some ⟨gt, 0, none⟩)] W fun e w' => ∃ a b c, e = .returned (.tuple #[.agg #[a, b, c], .int .i64 0]) ∧ DL w' wr.drew.heap.size a b c (DDD i) ∧ TapeIn p seed gt (K1 + (i + 1) * PD) w' ∧ W.grownBy w' (some gt)) := Lib.hid (fun W hg hb => by
            have h := dmake_any p (.slice Ax nx cx) (XD i) N _ W (HTP.out gt) HP.out HMAY.out (HTB.out.kept (grown_up HG6w.out (HGr.out.trans ((HD1.out.but _).trans hg)) (fun r e => by injection e with e; have := HGT.out.1; omega))) ((HSS.out.kept HD1.out).keep hg (fun b hb => HNg.out b hb.1)) (fun b hb e => HNg.out b hb.1 (by rw [e])) (by rw [(HXD.out i).2, HNNN.out.2.1]) (by have := HTN.out; have := HT.out; omega) (K1 + i * PD) t HT.out.2.1 hb (by
              have h1 := HKB.out
              rw [(HXD.out i).2, ← h1.2.2.2]
              have h2 : i * PD ≤ 2 * 160 := Nat.mul_le_mul hi3 h1.2.1
              omega)
            rw [(HXD.out i).2, HTN.out.2.1] at h
            refine h.mono ?_
            rintro e w' ⟨vm, vr, vc, rfl, k1, k2, k3, k4, k5⟩
            rw [← (HMFE.out i).1, ← (HMFE.out i).2] at k1 k2 k3
            refine ⟨vm, vr, vc, rfl, ⟨?_, ?_, ?_⟩, ?_, k5⟩
            · rw [HDDE.out i]
              exact k1.more fun b _ hb => Nat.le_trans hg.size hb
            · rw [HDDE.out i]
              exact k2.more fun b _ hb => Nat.le_trans hg.size hb
            · rw [HDDE.out i]
              exact k3.more fun b _ hb => Nat.le_trans hg.size hb
            · rw [← HKB.out.2.2.2] at k4
              rw [show K1 + (i + 1) * PD = K1 + i * PD + PD by rw [Nat.add_mul, Nat.one_mul]; omega]
              exact k4)
          clear hca hia hin ha haN haS hcS hsS hSX hXi hiA
          go_upto_region 14 with (fail)
          refine FR.wp_region_late (boxLt HOK.out) [12, 16, 17] 19 (by kernel_rfl) (by kernel_rfl) (by kernel_rfl) (BoxC.start (HTr.out.grown HD1.out (by simp))) ?_
          -- op 0 (slot 79): load
          refine FR.LateR.mono (FR.Qv.eq (p.v)) [] (by kernel_rfl) (by rfl) (fun vs w' hC => ?_) ?_
          · refine FR.askl_do rfl fun K hK => ?_
            have qq := HLD.out vs w' hC
            have hp := qq.1
            have ha := qq.2.1
            have hs := qq.2.2
            clear qq
            go_simp
            exact hK _ _ rfl ⟨rfl, World.grownBy.refl _ none⟩
          -- op 1 (slot 80): move
          refine FR.LateR.mono (FR.Qv.eq (.slice (some ⟨gS, oS, none⟩) N cS)) [] (by kernel_rfl) (by rfl) (fun vs w' hC => ?_) ?_
          · refine FR.askl_do rfl fun K hK => ?_
            go_simp
            exact hK _ _ rfl ⟨rfl, World.grownBy.refl _ none⟩
          -- op 2 (slot 81): move
          refine FR.LateR.mono (FR.Qv.eq (.slice (some ⟨ga, oa, none⟩) t ca)) [] (by kernel_rfl) (by rfl) (fun vs w' hC => ?_) ?_
          · refine FR.askl_do rfl fun K hK => ?_
            go_simp
            exact hK _ _ rfl ⟨rfl, World.grownBy.refl _ none⟩
          -- op 3 (slot 82): move
          refine FR.LateR.mono (FR.Qv.eq (.int .i64 (i : Int))) [] (by kernel_rfl) (by rfl) (fun vs w' hC => ?_) ?_
          · refine FR.askl_do rfl fun K hK => ?_
            go_simp
            exact hK _ _ rfl ⟨rfl, World.grownBy.refl _ none⟩
          -- op 4 (slot 83): indexAddr
          refine FR.LateR.mono (FR.Qv.eq (.pointer (some ⟨ga, oa + i, none⟩))) [(2, 81), (3, 82)] (by kernel_rfl) (by rfl) (fun vs w' hC => ?_) ?_
          · intro x81 h81
            intro x82 h82
            have e81 : x81 = .slice (some ⟨ga, oa, none⟩) t ca := h81
            clear h81
            subst e81
            have e82 : x82 = .int .i64 (i : Int) := h82
            clear h82
            subst e82
            refine FR.askl_do rfl fun K hK => ?_
            go_simp
            exact hK _ _ rfl ⟨rfl, World.grownBy.refl _ none⟩
          -- op 5 (slot 84): load
          refine FR.LateR.mono (FR.Qv.eq (.int .i64 ((a : Int) + 1))) [(4, 83)] (by kernel_rfl) (by rfl) (fun vs w' hC => ?_) ?_
          · intro x83 h83
            have e83 : x83 = .pointer (some ⟨ga, oa + i, none⟩) := h83
            clear h83
            subst e83
            refine FR.askl_do rfl fun K hK => ?_
            have qq := HLD.out vs w' hC
            have hp := qq.1
            have ha := qq.2.1
            have hs := qq.2.2
            clear qq
            go_simp
            exact hK _ _ rfl ⟨rfl, World.grownBy.refl _ none⟩
          -- op 6 (slot 85): binOp
          refine FR.LateR.mono (FR.Qv.eq (.int .i64 (a : Int))) [(5, 84)] (by kernel_rfl) (by rfl) (fun vs w' hC => ?_) ?_
          · intro x84 h84
            have e84 : x84 = .int .i64 ((a : Int) + 1) := h84
            clear h84
            subst e84
            refine FR.askl_do rfl fun K hK => ?_
            go_simp
            exact hK _ _ rfl ⟨rfl, World.grownBy.refl _ none⟩
          -- op 7 (slot 86): indexAddr
          refine FR.LateR.mono (FR.Qv.eq (.pointer (some ⟨gS, oS + a, none⟩))) [(1, 80), (6, 85)] (by kernel_rfl) (by rfl) (fun vs w' hC => ?_) ?_
          · intro x80 h80
            intro x85 h85
            have e80 : x80 = .slice (some ⟨gS, oS, none⟩) N cS := h80
            clear h80
            subst e80
            have e85 : x85 = .int .i64 (a : Int) := h85
            clear h85
            subst e85
            refine FR.askl_do rfl fun K hK => ?_
            go_simp
            exact hK _ _ rfl ⟨rfl, World.grownBy.refl _ none⟩
          -- op 8 (slot 87): load
          refine FR.LateR.mono (FR.Qv.eq (.slice Ax nx cx)) [(7, 86)] (by kernel_rfl) (by rfl) (fun vs w' hC => ?_) ?_
          · intro x86 h86
            have e86 : x86 = .pointer (some ⟨gS, oS + a, none⟩) := h86
            clear h86
            subst e86
            refine FR.askl_do rfl fun K hK => ?_
            have qq := HLD.out vs w' hC
            have hp := qq.1
            have ha := qq.2.1
            have hs := qq.2.2
            clear qq
            go_simp
            exact hK _ _ rfl ⟨rfl, World.grownBy.refl _ none⟩
          -- op 9 (slot 88): fieldAddr
          refine FR.LateR.mono (FR.Qv.eq (.pointer (some ⟨w.heap.size, 5, none⟩))) [] (by kernel_rfl) (by rfl) (fun vs w' hC => ?_) ?_
          · refine FR.askl_do rfl fun K hK => ?_
            go_simp
            exact hK _ _ rfl ⟨rfl, World.grownBy.refl _ none⟩
          -- op 10 (slot 89): load
          refine FR.LateR.mono (FR.Qv.eq (.int .i64 p.N)) [(9, 88)] (by kernel_rfl) (by rfl) (fun vs w' hC => ?_) ?_
          · intro x88 h88
            have e88 : x88 = .pointer (some ⟨w.heap.size, 5, none⟩) := h88
            clear h88
            subst e88
            refine FR.askl_do rfl fun K hK => ?_
            have qq := HLD.out vs w' hC
            have hp := qq.1
            have ha := qq.2.1
            have hs := qq.2.2
            clear qq
            go_simp
            exact hK _ _ rfl ⟨rfl, World.grownBy.refl _ none⟩
          -- op 11 (slot 90): move
          refine FR.LateR.mono (FR.Qv.eq (.pointer (some ⟨gt, 0, none⟩))) [] (by kernel_rfl) (by rfl) (fun vs w' hC => ?_) ?_
          · refine FR.askl_do rfl fun K hK => ?_
            go_simp
            exact hK _ _ rfl ⟨rfl, World.grownBy.refl _ none⟩
          -- op 12 (slot 91): call
          refine FR.LateR.turn 0 [(0, 79), (8, 87), (10, 89), (11, 90)] (by kernel_rfl) [] rfl (by kernel_rfl) (fun vs w' hn hr hC => ?_) ?_
          · intro x79 h79
            intro x87 h87
            intro x89 h89
            intro x90 h90
            have e79 : x79 = p.v := h79
            clear h79
            subst e79
            have e87 : x87 = .slice Ax nx cx := h87
            clear h87
            subst e87
            have e89 : x89 = .int .i64 p.N := h89
            clear h89
            subst e89
            have e90 : x90 = .pointer (some ⟨gt, 0, none⟩) := h90
            clear h90
            subst e90
            refine FR.askl_do rfl fun K hK => ?_
            have hC : BoxC _ _ _ _ _ _ vs w' := hC
            go_simp
            refine (HMK.out w' hC.g (hC.pre hn)).mono ?_
            rintro e w3 ⟨va, vb, vc, rfl, k1, k2, k3⟩
            exact hK _ _ rfl ⟨trivial, BoxC.call HOK.out hC hn (cs := #[va, vb, vc]) ⟨va, vb, vc, rfl, rfl, k1, k2⟩ k3⟩
          -- op 13 (slot 78): move
          refine FR.LateR.mono (boxX) [(12, 91)] (by kernel_rfl) (by rfl) (fun vs w' hC => ?_) ?_
          · intro x91 h91
            refine FR.askl_do rfl fun K hK => ?_
            go_simp
            exact hK _ _ rfl ⟨h91, World.grownBy.refl _ none⟩
          -- op 14 (slot 92): extract
          refine FR.LateR.mono (boxE hF0) [(13, 78)] (by kernel_rfl) (by rfl) (fun vs w' hC => ?_) ?_
          · intro x78 h78
            have h78 : (0, x78) ∈ vs := h78
            refine FR.askl_do rfl fun K hK => ?_
            have hC : BoxC _ _ _ _ _ _ vs w' := hC
            obtain ⟨cs, va, vb, vc, rfl, htt⟩ := hC.told _ h78
            go_simp
            exact hK _ _ rfl ⟨⟨_, h78, rfl⟩, World.grownBy.refl _ none⟩
          -- op 15 (slot 93): extract
          refine FR.LateR.mono (FR.Qv.eq (.int .i64 0)) [(13, 78)] (by kernel_rfl) (by rfl) (fun vs w' hC => ?_) ?_
          · intro x78 h78
            have h78 : (0, x78) ∈ vs := h78
            refine FR.askl_do rfl fun K hK => ?_
            have hC : BoxC _ _ _ _ _ _ vs w' := hC
            obtain ⟨cs, va, vb, vc, rfl, htt⟩ := hC.told _ h78
            go_simp
            exact hK _ _ rfl ⟨rfl, World.grownBy.refl _ none⟩
          -- op 16 (slot 20): alloc
          refine FR.LateR.turn 1 [] (by kernel_rfl) [] rfl (by kernel_rfl) (fun vs w' hn hr hC => ?_) ?_
          · refine FR.askl_do rfl fun K hK => ?_
            have hC : BoxC _ _ _ _ _ _ vs w' := hC
            go_simp
            exact hK _ _ rfl ⟨trivial, BoxC.alloc HOK.out hC hn⟩
          -- op 17 (slot None): store
          refine FR.LateR.turn 2 [(16, 20), (14, 92)] (by kernel_rfl) [0, 1] rfl (by kernel_rfl) (fun vs w' hn hr hC => ?_) ?_
          · intro x20 h20
            intro x92 h92
            have h92 : ∃ x, (0, x) ∈ vs ∧ hF0 x92 x := h92
            refine FR.askl_do rfl fun K hK => ?_
            have hC : BoxC _ _ _ _ _ _ vs w' := hC
            obtain ⟨x, hx, hfx⟩ := h92
            obtain ⟨cs, ht⟩ := hC.told _ hx
            have ht' := ht
            obtain ⟨va, vb, vc, e1, e2, hd, htp⟩ := ht
            subst e1
            obtain rfl : x92 = .agg #[va, vb, vc] := hF0_eq hfx
            obtain ⟨g, eg, hl, hz, _⟩ := hC.box _ h20
            subst eg
            have hb := hz hn
            have f0 := hb.cell 0
            have f1 := hb.cell 1
            have f2 := hb.cell 2
            have ff := hb.free
            simp at f0 f1 f2
            have hst := BoxC.stored HOK.out hC hn (u := undef) hx ht' h20 (e2 ▸ ((hb.set 0 va).set 1 vb).set 2 vc) (((grownSet w' g 0 va).trans (grownSet _ g 1 vb)).trans (grownSet _ g 2 vc))
            obtain ⟨A1, n1, c1, rfl⟩ := hd.1.shape
            obtain ⟨A2, n2, c2, rfl⟩ := hd.2.1.shape
            obtain ⟨A3, n3, c3, rfl⟩ := hd.2.2.shape
            clear ht' hfx hx hd htp
            go_simp
            exact hK _ _ rfl ⟨trivial, hst⟩
          -- op 18 (slot 21): assign
          refine FR.LateR.mono (FR.Qv.eq (.int .i64 0)) [(15, 93)] (by kernel_rfl) (by rfl) (fun vs w' hC => ?_) ?_
          · intro x93 h93
            have e93 : x93 = .int .i64 0 := h93
            clear h93
            subst e93
            refine FR.askl_do rfl fun K hK => ?_
            go_simp
            exact hK _ _ rfl ⟨rfl, World.grownBy.refl _ none⟩
          intro vs w7 hvl hC7
          have hC7 : BoxC _ _ _ _ _ _ vs w7 := hC7
          intro y0 k0 y1 k1 y2 k2 y3 k3 y4 k4 y5 k5 y6 k6 y7 k7 y8 k8 y9 k9 y10 k10 y11 k11 y12 k12 y13 k13 y14 k14 y15 k15 y16 k16 y17 k17 y18 k18
          show wpList Tryz.prog _ _ _ _ w7
          simp only [Act.put, List.setIfInBounds_toArray, List.set_cons_zero, List.set_cons_succ]
          have e18 : y18 = .int .i64 0 := k18
          subst e18
          obtain ⟨g20, x20, cs20, e20, hl20, hx20, ht20, hb20, hg20⟩ := hC7.fin hvl.2 k16
          subst e20
          obtain ⟨va, vb, vc, _, ec, hd, htp⟩ := ht20
          subst ec
          obtain ⟨Am, nm, cm, rfl⟩ := hd.1.shape
          obtain ⟨Ar, nr, cr, rfl⟩ := hd.2.1.shape
          obtain ⟨Ac, nc, cc, rfl⟩ := hd.2.2.shape
          have HD7 : Hid (DL w7 wr.heap.size (.slice Am nm cm) (.slice Ar nr cr) (.slice Ac nc cc) (DDD i)) := Lib.hid hd
          have HG7 : Hid (wr.grownBy w7 (some gt)) := Lib.hid ((HD1.out.but _).trans hg20)
          have HB7 := Lib.hid hb20
          have HT7 := Lib.hid htp
          have HL20 : Hid (wr.heap.size ≤ g20) := Lib.hid hl20
          have HSr7 := Lib.hid (HSr.out.keep HG7.out (fun b hb => HNg.out b (Nat.le_trans HZ6.out hb)))
          have HP7 : Hid (Bk w7 w.heap.size 24 p.cells) := Lib.hid (HPr.out.grown HG7.out (HNE.out _ HGT.out.2.2.1))
          have HCA7 : Hid (w7.cell? ⟨ga, oa + i, none⟩ = some (.int .i64 ((a : Int) + 1))) := Lib.hid (cellK HCA.out HG7.out (HNg.out _ HGX.out.2))
          have HZ7 : Hid (w6.heap.size ≤ w7.heap.size ∧ wr.heap.size ≤ w7.heap.size) := Lib.hid ⟨Nat.le_trans HZr.out HG7.out.size, HG7.out.size⟩
          have HO1 : Hid (∀ r, (Value.slice A17 n17 c17).ownBlock = some r → w6.heap.size ≤ r ∧ r < wr.heap.size) := Lib.hid (fun r e => HSr.out.fst.lt r e)
          have HO2 : Hid (∀ r, (Value.slice A18 n18 c18).ownBlock = some r → w6.heap.size ≤ r ∧ r < wr.heap.size) := Lib.hid (fun r e => HSr.out.snd.lt r e)
          have HG67 : Hid (w6.grownBy w7 (some gt)) := Lib.hid (HGr.out.trans HG7.out)
          have d0 := HB7.out.cell 0
          have d1 := HB7.out.cell 1
          have d2 := HB7.out.cell 2
          simp at d0 d1 d2
          have HREP : Hid (encG.rep (fun b => (w6.heap.size ≤ b ∧ some b ≠ (Value.slice A17 n17 c17).ownBlock) ∧ some b ≠ (Value.slice A18 n18 c18).ownBlock) w7 [.slice Am nm cm, .slice Ar nr cr, .slice Ac nc cc] (DDD i)) := Lib.hid (by
            have hne : ∀ b, wr.heap.size ≤ b → (w6.heap.size ≤ b ∧ some b ≠ (Value.slice A17 n17 c17).ownBlock) ∧ some b ≠ (Value.slice A18 n18 c18).ownBlock := fun b hb => ⟨⟨Nat.le_trans HZr.out hb, fun e => by have := (HO1.out b e.symm).2; omega⟩, fun e => by have := (HO2.out b e.symm).2; omega⟩
            exact ⟨_, _, _, rfl, HD7.out.1.more fun b _ hb => hne b hb, HD7.out.2.1.more fun b _ hb => hne b hb, HD7.out.2.2.more fun b _ hb => hne b hb⟩)
          have HLB : Hid ((((List.range i).map DDD).length + 1) * 72 ≤ 140737488355328) := Lib.hid (by simp; omega)
          clear k0 k1 k2 k3 k4 k5 k6 k7 k8 k9 k10 k11 k12 k13 k14 k15 k16 k17 k18 hvl hC7 hl20 hx20 hd hb20 hg20 htp HLD HMK HSr HTr HCA HCS HSS
          go_wp2_with (at_builtin; refine wpList_push rfl (.tmp 96) (.tmp 98) rfl (E := encG) (y := DDD i) el_dealing HSr7.out.snd rfl rfl HREP.out HLB.out HZ7.out.1 (HSr7.out.new2 (fun _ h => Nat.le_trans HZ7.out.1 h)) ?_)
          intro v18 w8 ha8 hg8 hm8
          have HS8 := Lib.hid (HSr7.out.two ha8 hg8 hm8)
          have HK8 : Hid (∀ b, b < w6.heap.size ∨ wr.heap.size ≤ b → some b ≠ (Value.slice A18 n18 c18).ownBlock) := Lib.hid (fun b hb e => by have := HO2.out b e.symm; omega)
          have HT8 : Hid (TapeIn p seed gt (K1 + (i + 1) * PD) w8) := Lib.hid (HT7.out.grown hg8 (HK8.out _ (.inl (by have := HZ6.out; omega))))
          have HP8 : Hid (Bk w8 w.heap.size 24 p.cells) := Lib.hid (HP7.out.grown hg8 (HK8.out _ (.inl (by have := HZ6.out; have := HGT.out.2.2.1; omega))))
          have HB8 := Lib.hid (HB7.out.grown hg8 (HK8.out _ (.inr HL20.out)))
          have HD8 : Hid (Sl (encS (encS encU)) (fun b => wr.heap.size ≤ b) w8 (.slice Am nm cm) (DDD i).1) := Lib.hid (HD7.out.1.keep hg8 (fun b hb => HK8.out b (.inr hb)))
          have HCA8 : Hid (w8.cell? ⟨ga, oa + i, none⟩ = some (.int .i64 ((a : Int) + 1))) := Lib.hid (cellK HCA7.out hg8 (HK8.out _ (.inl (by
            obtain ⟨_, _, _, e, _, hX, _⟩ := HAr.out.atI (k := i) (by rw [HPL.out.2]; omega)
            injection e with e _ _
            injection e with e
            injection e with e _ _
            rw [e]
            exact hX.2))))
          have HG68 : Hid (w6.grownBy w8 (some gt)) := Lib.hid (HG67.out.andThen hg8 (fun j e => .inl (HO2.out j e).1))
          clear ha8 hg8 hm8 d0 d1 d2 HREP HLB HSr7 HT7 HP7 HB7 HD7 HCA7 HG67 HZ7
          obtain ⟨A18', n18', c18', rfl⟩ := HS8.out.snd.sl.shape
          have HD9 : Hid (w8.grownBy w8.drew none) := Lib.hid (grown_drewN' _ 1)
          have HLI : Hid (∀ W, w8.drew.grownBy W none → W.cell? ⟨ga, oa + i, none⟩ = some (.int .i64 ((a : Int) + 1)) ∧ (∀ o, W.cell? ⟨w.heap.size, o, none⟩ = (#[.int .u64 p.P, .int .u64 p.Q, .int .u64 p.G, .int .u64 p.H, .int .i64 p.Nodes, .int .i64 p.N, .int .i64 p.T, .int .i64 p.K, .int .i64 p.D, .int .i64 p.R, .int .i64 p.M, .int .i64 p.X] : Array Value)[o]?) ∧ W.cell? ⟨g20, 0, none⟩ = some (.slice Am nm cm)) := Lib.hid (fun W hg => by
            have h := HD9.out.trans hg
            exact ⟨cellK HCA8.out h (by simp), (HP8.out.grown h (by simp)).prule, by simpa using (HB8.out.grown h (by simp)).cell 0⟩)
          obtain ⟨CC, hCC⟩ : ∃ y, y = colComsI p (matI p (MF i) (MB i)) 0 := ⟨_, rfl⟩
          have HCC := Lib.hid hCC
          have HCO : Hid (∀ W, w8.drew.grownBy W none → Calls Tryz.prog 12 #[p.v, .slice Am nm cm, .int .u64 0] W (Gives (encS encU) (fun g => W.heap.size ≤ g) W CC)) := Lib.hid (fun W hg => by
            rw [HCC.out]
            have hd := HD8.out.kept (HD9.out.trans hg)
            rw [HDDE.out i] at hd
            exact colComs_any p _ _ 0 _ W hd ⟨by omega, by omega⟩ (by rw [(HMT.out i).1]; have := HNNN.out; omega) (fun x hx => by rw [(HMT.out i).2 x hx]; have := HT.out; omega))
          obtain ⟨N1, hN1⟩ : ∃ y, y = w8.drew.heap.size := ⟨_, rfl⟩
          have HN1 := Lib.hid hN1
          clear hCC hN1
          go_upto_region 18 with (fail)
          refine wp_region_mono 11 (by kernel_rfl) (by kernel_rfl) ?_
          -- op 0 (slot 100): move
          refine MonoR.step (Pv.eq (.slice A17 n17 c17)) [] (by kernel_rfl) (fun w' hw' => ?_) ?_
          · refine ask_do rfl fun K hK => ?_
            go_simp
            exact hK _ _ rfl rfl (World.grownBy.refl _ none)
          -- op 1 (slot 101): move
          refine MonoR.step (Pv.eq (.slice (some ⟨ga, oa, none⟩) t ca)) [] (by kernel_rfl) (fun w' hw' => ?_) ?_
          · refine ask_do rfl fun K hK => ?_
            go_simp
            exact hK _ _ rfl rfl (World.grownBy.refl _ none)
          -- op 2 (slot 102): move
          refine MonoR.step (Pv.eq (.int .i64 (i : Int))) [] (by kernel_rfl) (fun w' hw' => ?_) ?_
          · refine ask_do rfl fun K hK => ?_
            go_simp
            exact hK _ _ rfl rfl (World.grownBy.refl _ none)
          -- op 3 (slot 103): indexAddr
          refine MonoR.step (Pv.eq (.pointer (some ⟨ga, oa + i, none⟩))) [(1, 101), (2, 102)] (by kernel_rfl) (fun w' hw' => ?_) ?_
          · intro x101 h101
            intro x102 h102
            have e101 : x101 = .slice (some ⟨ga, oa, none⟩) t ca := h101
            clear h101
            subst e101
            have e102 : x102 = .int .i64 (i : Int) := h102
            clear h102
            subst e102
            refine ask_do rfl fun K hK => ?_
            go_simp
            exact hK _ _ rfl rfl (World.grownBy.refl _ none)
          -- op 4 (slot 104): load
          refine MonoR.step (Pv.eq (.int .i64 ((a : Int) + 1))) [(3, 103)] (by kernel_rfl) (fun w' hw' => ?_) ?_
          · intro x103 h103
            have e103 : x103 = .pointer (some ⟨ga, oa + i, none⟩) := h103
            clear h103
            subst e103
            refine ask_do rfl fun K hK => ?_
            have qq := HLI.out w' hw'
            have q0 := qq.1
            have q1 := qq.2.1
            have q2 := qq.2.2
            clear qq
            go_simp
            exact hK _ _ rfl rfl (World.grownBy.refl _ none)
          -- op 5 (slot 105): load
          refine MonoR.step (Pv.eq (p.v)) [] (by kernel_rfl) (fun w' hw' => ?_) ?_
          · refine ask_do rfl fun K hK => ?_
            have qq := HLI.out w' hw'
            have q0 := qq.1
            have q1 := qq.2.1
            have q2 := qq.2.2
            clear qq
            go_simp
            exact hK _ _ rfl rfl (World.grownBy.refl _ none)
          -- op 6 (slot 106): fieldAddr
          refine MonoR.step (Pv.eq (.pointer (some ⟨g20, 0, none⟩))) [] (by kernel_rfl) (fun w' hw' => ?_) ?_
          · refine ask_do rfl fun K hK => ?_
            go_simp
            exact hK _ _ rfl rfl (World.grownBy.refl _ none)
          -- op 7 (slot 107): load
          refine MonoR.step (Pv.eq (.slice Am nm cm)) [(6, 106)] (by kernel_rfl) (fun w' hw' => ?_) ?_
          · intro x106 h106
            have e106 : x106 = .pointer (some ⟨g20, 0, none⟩) := h106
            clear h106
            subst e106
            refine ask_do rfl fun K hK => ?_
            have qq := HLI.out w' hw'
            have q0 := qq.1
            have q1 := qq.2.1
            have q2 := qq.2.2
            clear qq
            go_simp
            exact hK _ _ rfl rfl (World.grownBy.refl _ none)
          -- op 8 (slot 108): call
          refine MonoR.step (slC N1 CC) [(5, 105), (7, 107)] (by kernel_rfl) (fun w' hw' => ?_) ?_
          · intro x105 h105
            intro x107 h107
            have e105 : x105 = p.v := h105
            clear h105
            subst e105
            have e107 : x107 = .slice Am nm cm := h107
            clear h107
            subst e107
            refine ask_do rfl fun K hK => ?_
            go_simp
            refine (HCO.out w' hw').mono ?_
            rintro e w3 ⟨v3, rfl, hs3, hg3⟩
            exact hK _ _ rfl (hs3.more fun b _ hb => Nat.le_trans (by rw [HN1.out]; exact hw'.size) hb) hg3
          -- op 9 (slot 109): build
          refine MonoR.step (aggD N1 ((a : Int) + 1) CC) [(4, 104), (8, 108)] (by kernel_rfl) (fun w' hw' => ?_) ?_
          · intro x104 h104
            intro x108 h108
            have h108 : Sl (encS encU) (fun b => N1 ≤ b) w' x108 CC := h108
            obtain ⟨A108, n108, c108, e108⟩ := h108.shape
            subst e108
            have e104 : x104 = .int .i64 ((a : Int) + 1) := h104
            clear h104
            subst e104
            refine ask_do rfl fun K hK => ?_
            go_simp
            exact hK _ _ rfl ⟨_, _, _, rfl, h108⟩ (World.grownBy.refl _ none)
          -- op 10 (slot 110): buildSlice
          refine MonoR.step (blkD N1 ((a : Int) + 1) CC) [(9, 109)] (by kernel_rfl) (fun w' hw' => ?_) ?_
          · intro x109 h109
            have h109 : ∃ A n c, x109 = .agg #[.int .i64 ((a : Int) + 1), .slice A n c] ∧ Sl (encS encU) (fun b => N1 ≤ b) w' (.slice A n c) CC := h109
            obtain ⟨A109, n109, c109, e109, k109⟩ := h109
            subst e109
            refine ask_do rfl fun K hK => ?_
            go_simp
            exact hK _ _ rfl ⟨_, _, _, _, rfl, Bk.new w' _ _, k109.kept (World.grownBy_alloc w' _ none)⟩ (World.grownBy_alloc w' _ none)
          
          intro w9 hw9
          intro y0 k0 y1 k1 y2 k2 y3 k3 y4 k4 y5 k5 y6 k6 y7 k7 y8 k8 y9 k9 y10 k10
          show wpList Tryz.prog _ _ _ _ w9
          simp only [Act.put, List.setIfInBounds_toArray, List.set_cons_zero, List.set_cons_succ]
          have e0 : y0 = .slice A17 n17 c17 := k0
          subst e0
          have k10' : ∃ A n c b, y10 = .slice (some ⟨b, 0, none⟩) 1 1 ∧ Bk w9 b 54 #[.int .i64 ((a : Int) + 1), .slice A n c] ∧ Sl (encS encU) (fun b => N1 ≤ b) w9 (.slice A n c) CC := k10
          obtain ⟨Ay, ny, cy, by', ey, hky, hsy⟩ := k10'
          subst ey
          have HG89 : Hid (w8.grownBy w9 none) := Lib.hid (HD9.out.trans hw9)
          have HS9 := Lib.hid (HS8.out.kept HG89.out)
          have HG69 : Hid (w6.grownBy w9 (some gt)) := Lib.hid (HG68.out.trans (HG89.out.but _))
          have HT9 := Lib.hid (HT8.out.grown HG89.out (by simp))
          have HZ9 : Hid (w6.heap.size ≤ w9.heap.size) := Lib.hid HG69.out.size
          have HKY := Lib.hid hky
          have HREP : Hid (encD.rep (fun b => (w6.heap.size ≤ b ∧ some b ≠ (Value.slice A18' n18' c18').ownBlock) ∧ some b ≠ (Value.slice A17 n17 c17).ownBlock) w9 [.int .i64 ((a : Int) + 1), .slice Ay ny cy] ((a : Int) + 1, CC)) := Lib.hid ⟨_, rfl, HATI.out.2, hsy.more fun b _ hb => by
            rw [HN1.out] at hb
            exact ⟨⟨Nat.le_trans HG68.out.size hb, fun e => absurd hb (Nat.not_le_of_lt (HS8.out.snd.lt b e.symm).2)⟩, fun e => absurd hb (Nat.not_le_of_lt (HS8.out.fst.lt b e.symm).2)⟩⟩
          have HLB : Hid (((handDs p AT MF MB i).length + 1) * 32 ≤ 140737488355328) := Lib.hid (by simp [handDs]; omega)
          have HSN : Hid (handDs p AT MF MB (i + 1) = handDs p AT MF MB i ++ [((a : Int) + 1, CC)]) := Lib.hid (by rw [HCC.out, ← HATI.out.1]; exact hsnoc _ i)
          have HSN2 : Hid ((List.range (i + 1)).map DDD = (List.range i).map DDD ++ [DDD i]) := Lib.hid (hsnoc _ i)
          clear hky hsy k0 k1 k2 k3 k4 k5 k6 k7 k8 k9 k10 hw9 HLI HCO HS8 HT8 HP8 HB8 HD8 HCA8
          refine wpList_plain rfl fun K hK => ?_
          refine pushAt_core (E := encD) (y := ((a : Int) + 1, CC)) el_dealtH HS9.out.fst HREP.out (Bk.two HKY.out) HLB.out HZ9.out (HS9.out.new1 (fun _ h => Nat.le_trans HZ9.out h)) (.tmp 100) (.tmp 110) rfl rfl rfl ?_
          intro v17 w10 ha hgr hm
          refine hK _ _ ?_
          clear hK
          have HFIN : Hid (Side encD encG w6.heap.size 54 48 (fun b => w6.heap.size ≤ b) w10 v17 (.slice A18' n18' c18') (handDs p AT MF MB (i + 1)) ((List.range (i + 1)).map DDD) ∧ TapeIn p seed gt (K1 + (i + 1) * PD) w10 ∧ w6.grownBy w10 (some gt)) := Lib.hid ⟨by rw [HSN.out, HSN2.out]; exact HS9.out.one ha hgr hm, HT9.out.grown hgr (fun e => by have := (HS9.out.fst.lt gt e.symm).1; have := HZ6.out; omega), HG69.out.andThen hgr (fun j e => .inl (HS9.out.fst.lt j e).1)⟩
          clear ha hgr hm HS9 HG89 HG69 HT9 HZ9 HKY HREP HLB
          go_wp2_with fail
          go_roundg q
          case measure => omega
          case rel => exact ⟨i + 1, by omega, by go_num, HFIN⟩
end Go.Proofs.YtiimippmihkgcaaGreatDoor

namespace Go.Proofs.YtiimippmihkgcaaGreatDoor
open Go.ChangeShapes Go.WideShapes Go.RowKit

set_option maxRecDepth 100000 in
theorem open_params {H : Type} {enc : TypeId × Value → H} {w : World} {base : Nat} {spare : Nat → Bool} {held : Bool} {r : Reach} {b0 : Nat} {v : Value} {d : DataW H} {pl : List MemPlace}
    (hv : Value.okWide Tryz.prog w r b0 24 v) (h : DataW.Trod enc Tryz.prog w base spare held 24 v d pl) : ∃ p : Par, v = p.v ∧ p.ok := by
  obtain ⟨cs, rfl, hsz⟩ := okWide_struct Tryz.underlying24 hv
  obtain ⟨l⟩ := cs
  have hc : Tryz.prog.cellsOf 24 = 12 := by kernel_rfl
  have cu : Tryz.prog.cellsOf 22 = 1 := by kernel_rfl
  have ci : Tryz.prog.cellsOf 3 = 1 := by kernel_rfl
  have cj : Tryz.prog.cellsOf 2 = 1 := by kernel_rfl
  match l, hsz.trans hc with
  | [c0, c1, c2, c3, c4, c5, c6, c7, c8, c9, c10, c11], _ =>
    obtain ⟨fuel, hf⟩ := h
    obtain ⟨xs, n, _, _, _, hlen, hg⟩ := DataW.trod_struct Tryz.underlying24 hf
    match xs, hlen with
    | [y0, y1, y2, y3, y4, y5, y6, y7, y8, y9, y10, y11], _ =>
      have g0 := hg 0 _ rfl
      have g1 := hg 1 _ rfl
      have g2 := hg 2 _ rfl
      have g3 := hg 3 _ rfl
      have g4 := hg 4 _ rfl
      have g5 := hg 5 _ rfl
      have g6 := hg 6 _ rfl
      have g7 := hg 7 _ rfl
      have g8 := hg 8 _ rfl
      have g9 := hg 9 _ rfl
      have g10 := hg 10 _ rfl
      have g11 := hg 11 _ rfl
      simp [Value.cells, cu, ci, cj] at g0 g1 g2 g3 g4 g5 g6 g7 g8 g9 g10 g11
      obtain ⟨a0, e0, _, w0⟩ := DataW.trod_int Tryz.underlying22 g0
      simp at e0
      obtain ⟨a1, e1, _, w1⟩ := DataW.trod_int Tryz.underlying22 g1
      simp at e1
      obtain ⟨a2, e2, _, w2⟩ := DataW.trod_int Tryz.underlying22 g2
      simp at e2
      obtain ⟨a3, e3, _, w3⟩ := DataW.trod_int Tryz.underlying22 g3
      simp at e3
      obtain ⟨a4, e4, _, w4⟩ := DataW.trod_int Tryz.underlying3 g4
      simp at e4
      obtain ⟨a5, e5, _, w5⟩ := DataW.trod_int Tryz.underlying3 g5
      simp at e5
      obtain ⟨a6, e6, _, w6⟩ := DataW.trod_int Tryz.underlying3 g6
      simp at e6
      obtain ⟨a7, e7, _, w7⟩ := DataW.trod_int Tryz.underlying3 g7
      simp at e7
      obtain ⟨a8, e8, _, w8⟩ := DataW.trod_int Tryz.underlying3 g8
      simp at e8
      obtain ⟨a9, e9, _, w9⟩ := DataW.trod_int Tryz.underlying3 g9
      simp at e9
      obtain ⟨a10, e10, _, w10⟩ := DataW.trod_int Tryz.underlying2 g10
      simp at e10
      obtain ⟨a11, e11, _, w11⟩ := DataW.trod_int Tryz.underlying2 g11
      simp at e11
      subst e0 e1 e2 e3 e4 e5 e6 e7 e8 e9 e10 e11
      exact ⟨⟨a0, a1, a2, a3, a4, a5, a6, a7, a8, a9, a10, a11⟩, rfl, ⟨u64_wf w0, u64_wf w1, u64_wf w2, u64_wf w3, i64_wf w4, i64_wf w5, i64_wf w6, i64_wf w7, i64_wf w8, i64_wf w9, i64_wf w10, i64_wf w11⟩⟩
set_option maxRecDepth 100000 in
theorem open_pair {H : Type} {enc : TypeId × Value → H} {w : World} {base : Nat} {spare : Nat → Bool} {held : Bool} {r : Reach} {b0 : Nat} {v : Value} {d : DataW H} {pl : List MemPlace}
    (hv : Value.okWide Tryz.prog w r b0 70 v) (h : DataW.Trod enc Tryz.prog w base spare held 70 v d pl) : ∃ x : Int × Int, v = .agg #[.int .u64 x.1, .int .u64 x.2] ∧ U64 x.1 ∧ U64 x.2 := by
  obtain ⟨cs, rfl, hsz⟩ := okWide_struct Tryz.underlying70 hv
  obtain ⟨l⟩ := cs
  have hc : Tryz.prog.cellsOf 70 = 2 := by kernel_rfl
  have cu : Tryz.prog.cellsOf 22 = 1 := by kernel_rfl
  match l, hsz.trans hc with
  | [c0, c1], _ =>
    obtain ⟨fuel, hf⟩ := h
    obtain ⟨xs, n, _, _, _, hlen, hg⟩ := DataW.trod_struct Tryz.underlying70 hf
    match xs, hlen with
    | [y0, y1], _ =>
      have g0 := hg 0 _ rfl
      have g1 := hg 1 _ rfl
      simp [Value.cells, cu] at g0 g1
      obtain ⟨a0, e0, _, w0⟩ := DataW.trod_int Tryz.underlying22 g0
      obtain ⟨a1, e1, _, w1⟩ := DataW.trod_int Tryz.underlying22 g1
      simp at e0 e1
      subst e0 e1
      exact ⟨(a0, a1), rfl, u64_wf w0, u64_wf w1⟩
theorem cells_u64 : Tryz.prog.cellsOf 22 = 1 := by kernel_rfl
theorem reads_nums : Reads (encS encU) 39 := reads_sl Tryz.underlying39 (reads_u64 Tryz.underlying22) cells_u64
theorem cells_pair : Tryz.prog.cellsOf 70 = 2 := by kernel_rfl
theorem reads_pairs : Reads (encS encP) 51 := reads_sl Tryz.underlying51 (reads_pair Tryz.underlying70 ⟨rfl, rfl⟩ ⟨rfl, rfl⟩ Tryz.underlying22 cells_pair cells_u64) cells_pair
theorem cells_nums : Tryz.prog.cellsOf 39 = 1 := by kernel_rfl
theorem reads_rows : Reads (encS (encS encU)) 35 := reads_sl Tryz.underlying35 reads_nums cells_nums
theorem cells_rows : Tryz.prog.cellsOf 35 = 1 := by kernel_rfl
theorem reads_mat : Reads (encS (encS (encS encU))) 45 := reads_sl Tryz.underlying45 reads_rows cells_rows
theorem cells_pairs : Tryz.prog.cellsOf 51 = 1 := by kernel_rfl
theorem reads_prows : Reads (encS (encS encP)) 34 := reads_sl Tryz.underlying34 reads_pairs cells_pairs
theorem cells_int : Tryz.prog.cellsOf 3 = 1 := by kernel_rfl
theorem reads_ints : Reads (encS encI) 41 := reads_sl Tryz.underlying41 (reads_i64 Tryz.underlying3) cells_int
end Go.Proofs.YtiimippmihkgcaaGreatDoor

namespace Go.Proofs.YtiimippmihkgcaaGreatDoor
open Go Go.RowKit
theorem cells_i64' : Tryz.prog.cellsOf 2 = 1 := by kernel_rfl
theorem reads_i64s : Reads (encS encI) 25 := reads_sl Tryz.underlying25 (reads_i64 Tryz.underlying2) cells_i64'
end Go.Proofs.YtiimippmihkgcaaGreatDoor
