/- poly.Eval; bivar.wide, reads, Col; walked. bivar.columns, an iterator over the columns of lists, walked. bivar.Row and Col, walked. bivar.Col, walked. What deal.Make makes: its lists, and two lists side by side in a struct that is written. math/bits.TrailingZeros64 and mod.Prime, walked. What comes in: data of whatever depth, as the walks want it. group.May, walked: its asks one by one. group.May, walked: the asks as values, and the whole. The document's comparisons, of what is the same, walked. The document's comparison of models, of what is the same, walked. Weights, sums and commitments reckoned: what Lean can decide. Powers and commitments modulo P: plain arithmetic. The plain law of weights: places apart, rows turned about, one place alone. No program in sight but the data's words. The plain law of weights: rows turned about, one place alone. What members' pairs, and dealers' commitments, come to: in whatever row, and of one alone: the plain law of ShareRows. deal.Make, walked (printed by mk_dealh.py). -/
import Derived.Test.YtiimippmihkgcaaGreatDoorZ4
import Derived.IntWalk
import Derived.Lib.TrailingZeros
import Derived.Deep.LoopGhost
import Derived.WalkMore
import Derived.ProofKit
import Derived.OpenShut
import Derived.ChangeOld
import Derived.Deep.Slices
import Derived.Deep.QuietTactic
import Derived.BigQuiet
namespace Go.Proofs.YtiimippmihkgcaaGreatDoor
open Go Go.RowKit

theorem ret_i64 {a b : Int} (h : a = b) : Ending.returned (.int .i64 a) = .returned (.int .i64 b) := by rw [h]
/-- The value of a list of coefficients, the highest one first. -/
def evalGo (q x : Int) (l : List Int) (o : Int) : Int := l.foldl (fun o y => addI (mulI o x q) y q) o
def evalI (q : Int) (c : List Int) (x : Int) : Int := evalGo q x c.reverse 0
theorem evalGo_U64 (q x : Int) : ∀ (l : List Int) (o : Int), U64 o → U64 (evalGo q x l o)
  | [], _, h => h
  | _ :: l, _, _ => evalGo_U64 q x l _ (addI_U64 _ _ _)
theorem evalI_U64 (q : Int) (c : List Int) (x : Int) : U64 (evalI q c x) := evalGo_U64 q x _ _ ⟨by decide, by decide⟩
theorem evalGo_snoc (q x : Int) (l : List Int) (j : Nat) (h : j < l.length) (o : Int) : evalGo q x (l.take (j + 1)) o = addI (mulI (evalGo q x (l.take j) o) x q) l[j] q := by
  unfold evalGo
  rw [List.take_succ_eq_append_getElem h, List.foldl_append]
  rfl
theorem reverse_at (l : List Int) (j : Nat) (h : j < l.length) : l.reverse[j]'(by simpa using h) = l[l.length - 1 - j]'(by omega) := by simp
set_option maxRecDepth 100000 in
set_option maxHeartbeats 2000000 in
theorem eval_any (v : Value) (l : List Int) (x q : Int) (X : Nat → Prop) (w : World) (h : Sl encU X w v l) (hx : U64 x) :
    Calls Tryz.prog 43 #[v, .int .u64 x, .int .u64 q] w fun e w' => e = .returned (.int .u64 (evalI q l x)) ∧ w.grownBy w' none := by
  have H := Lib.hid h
  have HX := Lib.hid hx
  obtain ⟨A, c, rfl, hc1, hc2⟩ := h.form
  have HST : Hid (w.grownBy w none ∧ U64 0 ∧ (0 : Int) = evalGo q x (l.reverse.take 0) 0) := Lib.hid ⟨World.grownBy.refl w none, ⟨by decide, by decide⟩, rfl⟩
  clear h hx
  obtain ⟨n, hn⟩ : ∃ n, n = l.length := ⟨_, rfl⟩
  have HN := Lib.hid hn
  rw [← hn] at hc1 ⊢
  have hn9 : (n : Int) ≤ 9223372036854775807 := by omega
  clear hn
  go_enter Tryz.func43, Tryz.ntmps43
  go_wp2_with fail
  go_loopg [7, 11] n (fun g s7 s11 wx => ∃ (j : Nat) (o : Int), j + g = n ∧ s11 = .int .i64 j ∧ s7 = .int .u64 o ∧ Hid (w.grownBy wx none ∧ U64 o ∧ o = evalGo q x (l.reverse.take j) 0))
  case atStart => exact ⟨0, 0, by omega, rfl, rfl, HST⟩
  case round =>
    obtain ⟨j, o, hj, rfl, rfl, HR⟩ := hrel
    cases gk with
    | zero =>
      obtain rfl : j = n := by omega
      have HE : Hid (o = evalI q l x) := Lib.hid (by rw [HR.out.2.2, HN.out, evalI, List.take_of_length_le (by simp)])
      have HG := Lib.hid HR.out.1
      clear HR HST
      go_wp2
      go_ret
      exact ⟨ret_u64 HE.out, HG.out⟩
    | succ m =>
      have hjn : (j : Int) < (n : Int) := by omega
      have hjN : j < l.length := by rw [← HN.out]; omega
      obtain ⟨r, hr⟩ : ∃ r, r + j + 1 = n := ⟨m, by omega⟩
      have hrl : r < l.length := by rw [← HN.out]; omega
      obtain ⟨g, of, c', e, _, _, hcu, hu⟩ := (H.out.kept HR.out.1).atU hrl
      injection e with e1 e2 e3
      subst e1 e3
      have HGd : Hid (w.grownBy wr.drew none) := Lib.hid (grownBy_drewN HR.out.1 1)
      have HC0 := Lib.hid (fun (w' : World) (hw : wr.drew.grownBy w' none) => (H.out.kept (HGd.out.trans hw)).atU hrl)
      have HC : Hid (∀ w', wr.drew.grownBy w' none → w'.cell? ⟨g, of + r, none⟩ = some (.int .u64 l[r])) := Lib.hid (fun w' hw => by
        obtain ⟨g2, of2, c2, e2, _, _, h3, _⟩ := HC0.out w' hw
        injection e2 with e21 e22 e23
        injection e21 with e21
        injection e21 with e24 e25
        subst e24 e25
        exact h3)
      have HY := Lib.hid hu
      have HO := Lib.hid HR.out.2.1
      have HSN : Hid (addI (mulI o x q) l[r] q = evalGo q x (l.reverse.take (j + 1)) 0) := Lib.hid (by
        rw [evalGo_snoc q x l.reverse j (by simpa using hjN), reverse_at l j hjN, ← HR.out.2.2]
        congr 2
        have := HN.out
        omega)
      have e4 : IntKind.i64.wrap ((n : Int) - 1) = (n : Int) - 1 := IntWalk.i64_in _ (by omega)
      have e5 : IntKind.i64.wrap ((n : Int) - 1 - (j : Int)) = (r : Int) := by rw [IntWalk.i64_in _ (by omega)]; omega
      have hr0 : (0 : Int) ≤ (r : Int) := by omega
      have hrn : (r : Int) < (n : Int) := by omega
      clear hcu hu HC0 HR HST e2
      generalize l[r] = y at *
      go_wp2_with fail
      refine wp_region_mono 15 (by kernel_rfl) (by kernel_rfl) ?_
      -- op 0 (slot 14): move
      refine MonoR.step (Pv.eq (.int .u64 o)) [] (by kernel_rfl) (fun w' hw' => ?_) ?_
      · refine ask_do rfl fun K hK => ?_
        go_simp
        exact hK _ _ rfl rfl (World.grownBy.refl _ none)
      -- op 1 (slot 15): move
      refine MonoR.step (Pv.eq (.int .u64 x)) [] (by kernel_rfl) (fun w' hw' => ?_) ?_
      · refine ask_do rfl fun K hK => ?_
        go_simp
        exact hK _ _ rfl rfl (World.grownBy.refl _ none)
      -- op 2 (slot 16): move
      refine MonoR.step (Pv.eq (.int .u64 q)) [] (by kernel_rfl) (fun w' hw' => ?_) ?_
      · refine ask_do rfl fun K hK => ?_
        go_simp
        exact hK _ _ rfl rfl (World.grownBy.refl _ none)
      -- op 3 (slot 17): call
      refine MonoR.step (Pv.eq (.int .u64 (mulI o x q))) [(0, 14), (1, 15), (2, 16)] (by kernel_rfl) (fun w' hw' => ?_) ?_
      · rintro _ rfl
        rintro _ rfl
        rintro _ rfl
        refine ask_do rfl fun K hK => ?_
        go_simp
        refine (mul_gr o x q w' HO.out HX.out).mono ?_
        rintro e w3 ⟨rfl, hg⟩
        exact hK _ _ rfl rfl hg
      -- op 4 (slot 18): move
      refine MonoR.step (Pv.eq (.slice (some ⟨g, of, none⟩) n c)) [] (by kernel_rfl) (fun w' hw' => ?_) ?_
      · refine ask_do rfl fun K hK => ?_
        go_simp
        exact hK _ _ rfl rfl (World.grownBy.refl _ none)
      -- op 5 (slot 19): move
      refine MonoR.step (Pv.eq (.slice (some ⟨g, of, none⟩) n c)) [] (by kernel_rfl) (fun w' hw' => ?_) ?_
      · refine ask_do rfl fun K hK => ?_
        go_simp
        exact hK _ _ rfl rfl (World.grownBy.refl _ none)
      -- op 6 (slot 20): call
      refine MonoR.step (Pv.eq (.int .i64 (n : Int))) [(5, 19)] (by kernel_rfl) (fun w' hw' => ?_) ?_
      · rintro _ rfl
        refine ask_do rfl fun K hK => ?_
        go_simp
        exact hK _ _ rfl rfl (World.grownBy.refl _ none)
      -- op 7 (slot 21): binOp
      refine MonoR.step (Pv.eq (.int .i64 ((n : Int) - 1))) [(6, 20)] (by kernel_rfl) (fun w' hw' => ?_) ?_
      · rintro _ rfl
        refine ask_do rfl fun K hK => ?_
        go_simp
        exact hK _ _ rfl rfl (World.grownBy.refl _ none)
      -- op 8 (slot 22): move
      refine MonoR.step (Pv.eq (.int .i64 (j : Int))) [] (by kernel_rfl) (fun w' hw' => ?_) ?_
      · refine ask_do rfl fun K hK => ?_
        go_simp
        exact hK _ _ rfl rfl (World.grownBy.refl _ none)
      -- op 9 (slot 23): binOp
      refine MonoR.step (Pv.eq (.int .i64 (r : Int))) [(7, 21), (8, 22)] (by kernel_rfl) (fun w' hw' => ?_) ?_
      · rintro _ rfl
        rintro _ rfl
        refine ask_do rfl fun K hK => ?_
        go_simp
        exact hK _ _ rfl rfl (World.grownBy.refl _ none)
      -- op 10 (slot 24): indexAddr
      refine MonoR.step (Pv.eq (.pointer (some ⟨g, of + r, none⟩))) [(4, 18), (9, 23)] (by kernel_rfl) (fun w' hw' => ?_) ?_
      · rintro _ rfl
        rintro _ rfl
        refine ask_do rfl fun K hK => ?_
        go_simp
        exact hK _ _ rfl rfl (World.grownBy.refl _ none)
      -- op 11 (slot 25): load
      refine MonoR.step (Pv.eq (.int .u64 y)) [(10, 24)] (by kernel_rfl) (fun w' hw' => ?_) ?_
      · rintro _ rfl
        refine ask_do rfl fun K hK => ?_
        have hc := HC.out w' hw'
        go_simp
        exact hK _ _ rfl rfl (World.grownBy.refl _ none)
      -- op 12 (slot 26): move
      refine MonoR.step (Pv.eq (.int .u64 q)) [] (by kernel_rfl) (fun w' hw' => ?_) ?_
      · refine ask_do rfl fun K hK => ?_
        go_simp
        exact hK _ _ rfl rfl (World.grownBy.refl _ none)
      -- op 13 (slot 27): call
      refine MonoR.step (Pv.eq (.int .u64 (addI (mulI o x q) y q))) [(3, 17), (11, 25), (12, 26)] (by kernel_rfl) (fun w' hw' => ?_) ?_
      · rintro _ rfl
        rintro _ rfl
        rintro _ rfl
        refine ask_do rfl fun K hK => ?_
        go_simp
        refine (add_gr (mulI o x q) y q w' (mulI_U64 _ _ _) HY.out).mono ?_
        rintro e w3 ⟨rfl, hg⟩
        exact hK _ _ rfl rfl hg
      -- op 14 (slot 7): assign
      refine MonoR.step (Pv.eq (.int .u64 (addI (mulI o x q) y q))) [(13, 27)] (by kernel_rfl) (fun w' hw' => ?_) ?_
      · rintro _ rfl
        refine ask_do rfl fun K hK => ?_
        go_simp
        exact hK _ _ rfl rfl (World.grownBy.refl _ none)
      intro w3 hw3
      iterate 14 (intro _ _)
      rintro _ rfl
      have HE : Hid (w.grownBy w3 none ∧ U64 (addI (mulI o x q) y q) ∧ addI (mulI o x q) y q = evalGo q x (l.reverse.take (j + 1)) 0) := Lib.hid ⟨HGd.out.trans hw3, addI_U64 _ _ _, HSN.out⟩
      clear hw3 e4 e5
      refine wpList_nil ?_
      simp only [Act.put, List.setIfInBounds_toArray, List.set_cons_zero, List.set_cons_succ]
      go_wp2_with fail
      go_roundg m
      case measure => omega
      case rel => exact ⟨j + 1, _, by omega, by go_num, rfl, HE⟩
set_option maxHeartbeats 400000 in
theorem wide_any (v : Value) (l : List (List Int)) (X : Nat → Prop) (w : World) (h : Sl (encS encU) X w v l) (hb2 : ∀ c ∈ l, c.length ≤ 100000) :
    Calls Tryz.prog 100 #[v] w fun e w' => e = .returned (.int .i64 (wideI l : Nat)) ∧ w' = w := by
  have H := Lib.hid h
  have HB2 := Lib.hid hb2
  obtain ⟨A, c, rfl, hc1, hc2⟩ := h.form
  have HN0 : Hid (0 = wideI (l.take 0)) := Lib.hid rfl
  clear h hb2
  go_enter Tryz.func100, Tryz.ntmps100
  go_wp2_with fail
  go_loopg [3, 8] l.length (fun g s3 s8 wx => ∃ j n : Nat, j + g = l.length ∧ s8 = .int .i64 j ∧ s3 = .int .i64 n ∧ Hid (n = wideI (l.take j)) ∧ Hid (wx = w))
  case atStart => exact ⟨0, 0, by omega, rfl, rfl, HN0, Lib.hid rfl⟩
  case round =>
    obtain ⟨j, n, hj, rfl, rfl, HN, HX⟩ := hrel
    obtain rfl : wr = w := HX.out
    cases gk with
    | zero =>
      obtain rfl : j = l.length := by omega
      have HNW : Hid (n = wideI l) := Lib.hid (by have := HN.out; rwa [List.take_length] at this)
      clear HX HN
      go_wp2
      go_ret
      exact ⟨ret_i64 (by rw [HNW.out]), rfl⟩
    | succ m =>
      have hjn : (j : Int) < (l.length : Int) := by omega
      have hjN : j < l.length := by omega
      obtain ⟨g, o, c', u, e, _, _, hcu, hsu⟩ := H.out.atS hjN
      injection e with e1 e2 e3
      subst e1 e3
      obtain ⟨A1, c1, e1, _, _⟩ := hsu.form
      subst e1
      have HSN : Hid (wideI (l.take (j + 1)) = max n l[j].length) := Lib.hid (by rw [wide_snoc l j hjN, HN.out])
      have hnb : n ≤ 100000 := by rw [HN.out]; exact wide_le _ _ (fun c hc => HB2.out c (List.mem_of_mem_take hc))
      have hlb : l[j].length ≤ 100000 := HB2.out _ (List.getElem_mem hjN)
      clear hsu e2 HN
      generalize l[j].length = n1 at *
      go_wp2_with fail
      all_goals
        go_roundg m
        case measure => omega
        case rel => exact ⟨j + 1, max n n1, by omega, by go_num, by congr 1; omega, Lib.hid HSN.out.symm, Lib.hid rfl⟩
end Go.Proofs.YtiimippmihkgcaaGreatDoor

namespace Go.Proofs.YtiimippmihkgcaaGreatDoor
open Go Go.RowKit Go.Shelf

attribute [local go_sem] Oper.semAt_some
/-- The j-th numbers of all lists; 0 where there is none. -/
def colZ (f : List (List Int)) (j : Nat) : List Int := f.map fun c => c[j]?.getD 0
theorem colZ_snoc (l : List (List Int)) (i j : Nat) (h : i < l.length) : colZ (l.take (i + 1)) j = colZ (l.take i) j ++ [l[i][j]?.getD 0] := map_take_snoc' _ l i h
theorem colZ_length (f : List (List Int)) (j : Nat) : (colZ f j).length = f.length := by simp [colZ]
set_option maxHeartbeats 400000 in
theorem reads_one (A : Option Addr) (m c : Nat) (w : World) :
    Calls Tryz.prog 125 #[.slice A m c] w fun e w' => e = .returned (.func (.func 133) #[] #[.pointer (some ⟨w.heap.size, 0, none⟩)]) ∧ w' = w.alloc (.cells #[.slice A m c] 35) := by
  go_enter Tryz.func125, Tryz.ntmps125
  go_wp2
  go_ret
  exact ⟨rfl, rfl⟩
set_option maxHeartbeats 400000 in
theorem readsAt_any (B : Nat) (v : Value) (f : List (List Int)) (i j : Nat) (X : Nat → Prop) (w : World) (hb : Boxed w B 35 v) (h : Sl (encS encU) X w v f) (hi : i < f.length) (hj : (j : Int) ≤ 9223372036854775807) :
    Calls Tryz.prog 133 #[.int .i64 i, .int .i64 j, .pointer (some ⟨B, 0, none⟩)] w fun e w' => e = .returned (.int .u64 (f[i][j]?.getD 0)) ∧ w' = w := by
  have hc := hb.cell
  obtain ⟨g, o, c', u, e, _, _, hcu, hsu⟩ := h.atS hi
  subst e
  have hi0 : (0 : Int) ≤ (i : Int) := by omega
  have hj0 : (0 : Int) ≤ (j : Int) := by omega
  have hil : (i : Int) < (f.length : Int) := by omega
  obtain ⟨A1, c1, rfl, _, _⟩ := hsu.form
  by_cases hl : j < f[i].length
  · obtain ⟨g1, o1, c2, e, _, _, hcv, _⟩ := hsu.atU hl
    injection e with e1 e2 e3
    subst e1 e3
    have hli : (j : Int) < (f[i].length : Int) := by omega
    rw [show f[i][j]?.getD 0 = f[i][j] by rw [List.getElem?_eq_getElem hl]; rfl]
    generalize f[i][j] = y at *
    clear hsu hb h e2
    generalize f[i].length = m at *
    go_enter Tryz.func133, Tryz.ntmps133
    go_wp2
    go_ret
    exact ⟨rfl, rfl⟩
  · have hli : ¬ (j : Int) < (f[i].length : Int) := by omega
    have hli2 : (f[i].length : Int) ≤ (j : Int) := by omega
    rw [show f[i][j]?.getD 0 = 0 by rw [List.getElem?_eq_none (by omega)]; rfl]
    clear hsu hb h
    generalize f[i].length = m at *
    go_enter Tryz.func133, Tryz.ntmps133
    go_wp2
    go_ret
    exact ⟨rfl, rfl⟩
/-- What columns tells: a function that has f, and how f is read, in boxes. -/
def ColsOut (A : Option Addr) (m c : Nat) (w : World) (e : Ending) (w' : World) : Prop :=
  e = .returned (.func (.func 126) #[] #[.pointer (some ⟨w.heap.size, 0, none⟩), .pointer (some ⟨w.heap.size + 1 + 1, 0, none⟩)]) ∧ Boxed w' w.heap.size 35 (.slice A m c) ∧ Boxed w' (w.heap.size + 1) 35 (.slice A m c) ∧
  Boxed w' (w.heap.size + 1 + 1) 164 (.func (.func 133) #[] #[.pointer (some ⟨w.heap.size + 1, 0, none⟩)]) ∧ w.grownBy w' none ∧ w'.heap.size = w.heap.size + 1 + 1 + 1
set_option maxHeartbeats 400000 in
theorem columns_any (A : Option Addr) (m c : Nat) (w : World) :
    Calls Tryz.prog 101 #[.slice A m c] w (ColsOut A m c w) := by
  have e1 : (w.alloc (.cells #[.slice A m c] 35)).heap.size = w.heap.size + 1 := by simp
  have e2 : ((w.alloc (.cells #[.slice A m c] 35)).alloc (.cells #[.slice A m c] 35)).heap.size = w.heap.size + 1 + 1 := by simp
  have b3 := Boxed.new ((w.alloc (.cells #[.slice A m c] 35)).alloc (.cells #[.slice A m c] 35)) 164 .nilFunc
  rw [e2] at b3
  have hc3 := b3.cell
  have hf3 := b3.frozen
  have hrun : (store ⟨w.heap.size + 1 + 1, 0, none⟩ (.func (.func 133) #[] #[.pointer (some ⟨w.heap.size + 1, 0, none⟩)])).run Tryz.prog (((w.alloc (.cells #[.slice A m c] 35)).alloc (.cells #[.slice A m c] 35)).alloc (.cells #[.nilFunc] 164)) = .ok () ((((w.alloc (.cells #[.slice A m c] 35)).alloc (.cells #[.slice A m c] 35)).alloc (.cells #[.nilFunc] 164)).setCell ⟨w.heap.size + 1 + 1, 0, none⟩ (.func (.func 133) #[] #[.pointer (some ⟨w.heap.size + 1, 0, none⟩)])) := by
    simp only [store, Sem.run, hc3, hf3]
    rfl
  have HF : Hid (ColsOut A m c w (.returned (.func (.func 126) #[] #[.pointer (some ⟨w.heap.size, 0, none⟩), .pointer (some ⟨w.heap.size + 1 + 1, 0, none⟩)])) (((w.alloc (.cells #[.slice A m c] 35)).alloc (.cells #[.slice A m c] 35)).alloc (.cells #[.func (.func 133) #[] #[.pointer (some ⟨w.heap.size + 1, 0, none⟩)]] 164))) := Lib.hid (by
    have b1 := ((Boxed.new w 35 (.slice A m c)).alloc (.cells #[.slice A m c] 35)).alloc (.cells #[.func (.func 133) #[] #[.pointer (some ⟨w.heap.size + 1, 0, none⟩)]] 164)
    have b2 := (Boxed.new (w.alloc (.cells #[.slice A m c] 35)) 35 (.slice A m c)).alloc (.cells #[.func (.func 133) #[] #[.pointer (some ⟨w.heap.size + 1, 0, none⟩)]] 164)
    have b4 := Boxed.new ((w.alloc (.cells #[.slice A m c] 35)).alloc (.cells #[.slice A m c] 35)) 164 (.func (.func 133) #[] #[.pointer (some ⟨w.heap.size + 1, 0, none⟩)])
    rw [e1] at b2
    rw [e2] at b4
    exact ⟨rfl, b1, b2, b4, ((World.grownBy_alloc w _ none).trans (World.grownBy_alloc _ _ none)).trans (World.grownBy_alloc _ _ none), by simp⟩)
  clear b3 e1 e2
  go_enter Tryz.func101, Tryz.ntmps101
  go_wp2_with fail
  refine (reads_one A m c _).mono ?_
  rintro e w1 ⟨rfl, rfl⟩
  go_wp2
  go_ret
  exact HF.out
/-- A column as it is handed over: its place, the slice, the numbers. -/
structure Colx where
  j : Nat
  v : Value
  c : List Int
/-- What a round of the iterator keeps: what lay below n₀, and three boxes. -/
def Kp3 (n₀ B1 B2 B3 : Nat) (A B : World) : Prop := Below n₀ A B ∧ B.heap[B1]? = A.heap[B1]? ∧ B.heap[B2]? = A.heap[B2]? ∧ B.heap[B3]? = A.heap[B3]?
theorem Kp3.refl (n₀ B1 B2 B3 : Nat) (A : World) : Kp3 n₀ B1 B2 B3 A A := ⟨Below.refl _ _, rfl, rfl, rfl⟩
theorem Kp3.trans {n₀ B1 B2 B3 : Nat} {A B C : World} (h : Kp3 n₀ B1 B2 B3 A B) (k : Kp3 n₀ B1 B2 B3 B C) : Kp3 n₀ B1 B2 B3 A C := ⟨h.1.trans k.1, k.2.1.trans h.2.1, k.2.2.1.trans h.2.2.1, k.2.2.2.trans h.2.2.2⟩
theorem Kp3.grown {n₀ B1 B2 B3 : Nat} {A B : World} (hg : A.grownBy B none) (hn : n₀ ≤ A.heap.size) (h1 : B1 < A.heap.size) (h2 : B2 < A.heap.size) (h3 : B3 < A.heap.size) : Kp3 n₀ B1 B2 B3 A B :=
  ⟨(below_grown hg).mono hn, hg.block _ h1 (by simp), hg.block _ h2 (by simp), hg.block _ h3 (by simp)⟩
theorem Kp3.b {n₀ B1 B2 B3 : Nat} {w : World} (hn : n₀ ≤ w.heap.size) (h1 : B1 < w.heap.size) (h2 : B2 < w.heap.size) (h3 : B3 < w.heap.size) (W : World) (l : Nat) (o o' : Obj) (hl : w.heap.size ≤ l) (h : W.heap[l]? = some o) (k1 : o.isCells = false) (k2 : o.isWalk = false) : Kp3 n₀ B1 B2 B3 W (W.putObj l o') := by
  have hlt := (Array.getElem?_eq_some_iff.1 h).1
  have hg := grownBy_putObj' W l o'
  exact ⟨belowK_b hn W l o o' hl h k1 k2, hg.block _ (by omega) (fun e => by injection e with e; omega), hg.block _ (by omega) (fun e => by injection e with e; omega), hg.block _ (by omega) (fun e => by injection e with e; omega)⟩
def colFx (n₁ n : Nat) (x : Colx) (W : World) : Prop := Sl encU (fun g => n₁ ≤ g) W x.v x.c ∧ x.j < n
def colsOf (f : List (List Int)) : List (Nat × List Int) := (List.range (wideI f)).map fun j => (j, colZ f j)
set_option maxRecDepth 100000 in
set_option maxHeartbeats 2000000 in
theorem columns_goes (n : Nat) (hn : 1 ≤ n) (B1 B2 B3 : Nat) (v : Value) (f : List (List Int)) (X : Nat → Prop) (w₀ w1 : World) (h01 : Below w₀.heap.size w₀ w1) (hb1 : Boxed w1 B1 35 v) (hb2 : Boxed w1 B2 35 v) (hb3 : Boxed w1 B3 164 (.func (.func 133) #[] #[.pointer (some ⟨B2, 0, none⟩)])) (hf : Sl (encS encU) X w₀ v f) (hl1 : f.length ≤ 100000) (hl2 : ∀ c ∈ f, c.length ≤ 100000) :
    SeqGoes Fence.wide n Tryz.prog 126 #[.pointer (some ⟨B1, 0, none⟩), .pointer (some ⟨B3, 0, none⟩)] (fun x : Colx => #[.int .i64 x.j, x.v]) (colFx w1.heap.size (wideI f)) (Kp3 w₀.heap.size B1 B2 B3) (fun xs => xs.map (fun x => (x.j, x.c)) = colsOf f) (wideI f) w1 := by
  intro l J W hW hJ hY h0
  refine callsIn_of_wp Tryz.func126 rfl trivial ?_ rfl
  simp only [Tryz.ntmps126, List.size_toArray, List.length_cons, List.length_nil, Nat.reduceAdd, Nat.reduceSub, Array.replicate_succ, Array.replicate_zero, List.push_toArray, List.append_toArray, List.nil_append, List.cons_append]
  have HB1 : Hid (Boxed W B1 35 v) := Lib.hid ((hW.5 B1 hb1.lt).trans hb1)
  have HB2 : Hid (Boxed W B2 35 v) := Lib.hid ((hW.5 B2 hb2.lt).trans hb2)
  have HB3 : Hid (Boxed W B3 164 (.func (.func 133) #[] #[.pointer (some ⟨B2, 0, none⟩)])) := Lib.hid ((hW.5 B3 hb3.lt).trans hb3)
  have HG0 : Hid (w₀.grownBy W none) := Lib.hid (grown_of_below (h01.trans (hW.mono h01.size)))
  have HWS : Hid (w1.heap.size ≤ W.heap.size) := Lib.hid hW.size
  have HF := Lib.hid hf
  have HLC := Lib.hid hl2
  have HWB : Hid (wideI f ≤ 100000) := Lib.hid (wide_le f _ hl2)
  obtain ⟨A1, c1, rfl, _, _⟩ := hf.form
  have HLB1 := Lib.hid hb1.lt
  have HLB2 := Lib.hid hb2.lt
  have HLB3 := Lib.hid hb3.lt
  have ca := HB1.out.cell
  have HWI := Lib.hid (wide_any _ f X W (HF.out.kept HG0.out) hl2)
  have HH0 := Lib.hid h0
  have HL : Hid ((colsOf f).length = wideI f) := Lib.hid (by simp [colsOf])
  clear hb1 hb2 hb3 hf h0 hl2
  obtain ⟨N, hN⟩ : ∃ N, N = wideI f := ⟨_, rfl⟩
  rw [← hN] at HWI HWB HL hY
  have HN := Lib.hid hN
  have HN9 : N ≤ 100000 := HWB.out
  clear hN
  gi_wp2_with (refine ⟨trivial, ?_⟩; refine (callsIn_wide.2 HWI.out).mono ?_; rintro e w' ⟨rfl, hw'⟩; obtain rfl : W = w' := hw'.symm)
  gi_loopw [9] (fun s9 wr => ∃ (k : Nat) (pre : List Colx), k ≤ N ∧ s9 = .int .i64 k ∧ Hid (pre.map (fun x => (x.j, x.c)) = (colsOf f).take k ∧ J pre wr ∧ Kp3 w₀.heap.size B1 B2 B3 W wr)) (fun s9 _ => N - (intOf s9).toNat)
  case atStart => exact ⟨0, [], by omega, rfl, Lib.hid ⟨rfl, HH0.out, Kp3.refl _ _ _ _ _⟩⟩
  case round =>
    rename World => wr
    obtain ⟨k, pre, hk, rfl, HX⟩ := hrel
    by_cases hlt : k < N
    · have hki : (k : Int) < (N : Int) := by omega
      have hkb : (k : Int) ≤ 9223372036854775807 := by omega
      have hpl : pre.length = k := by have := congrArg List.length HX.out.1; simpa [HL.out, Nat.min_eq_left hk] using this
      have HBr1 : Hid (Boxed wr B1 35 (.slice A1 f.length c1)) := Lib.hid (HX.out.2.2.2.1.trans HB1.out)
      have HBr2 : Hid (Boxed wr B2 35 (.slice A1 f.length c1)) := Lib.hid (HX.out.2.2.2.2.1.trans HB2.out)
      have HBr3 : Hid (Boxed wr B3 164 (.func (.func 133) #[] #[.pointer (some ⟨B2, 0, none⟩)])) := Lib.hid (HX.out.2.2.2.2.2.trans HB3.out)
      have HGW : Hid (w₀.grownBy wr none) := Lib.hid (grown_of_below ((below_grown HG0.out).trans HX.out.2.2.1))
      have HWR : Hid (W.heap.size ≤ wr.heap.size) := Lib.hid HX.out.2.2.1.size
      have hca := HBr1.out.cell
      clear ca
      have HI0 : Hid (Acc encU wr.heap.size 22 (fun g => wr.heap.size ≤ g) wr (.slice none 0 0) (colZ (f.take 0) k) ∧ wr.grownBy wr none) := Lib.hid ⟨Acc.nil _ _ _ _ _, World.grownBy.refl _ _⟩
      gi_wp2
      refine wpIn_wide.2 ?_
      go_loopg [5, 14] f.length (fun g s5 s14 wx => ∃ i : Nat, i + g = f.length ∧ s14 = .int .i64 i ∧ Hid (Acc encU wr.heap.size 22 (fun g => wr.heap.size ≤ g) wx s5 (colZ (f.take i) k) ∧ wr.grownBy wx none))
      case atStart => exact ⟨0, by omega, rfl, HI0⟩
      case round =>
        rename World => wi
        obtain ⟨i, hi, rfl, HY⟩ := hrel
        cases gk with
        | zero =>
          obtain rfl : i = f.length := by omega
          have HJi : Hid (J pre wi) := Lib.hid (hJ _ wr wi none HX.out.2.1 HY.out.2 (by simp))
          have HC : Hid (Sl encU (fun g => w1.heap.size ≤ g) wi u5 (colZ f k)) := Lib.hid (by have := HY.out.1.sl; rw [List.take_length] at this; exact this.more (fun g _ hg => by have := HWS.out; have := HWR.out; omega))
          obtain ⟨fn, tmps, assign, body, hy, hR⟩ := hY pre ⟨k, u5, colZ f k⟩ wi HJi.out ⟨HC.out, hlt⟩ (by rw [hpl]; exact hlt)
          dsimp only at hy
          have HR := Lib.hid hR
          have HPN : Hid ((pre ++ [(⟨k, u5, colZ f k⟩ : Colx)]).map (fun x => (x.j, x.c)) = (colsOf f).take (k + 1)) := Lib.hid (by
            have hkz : k < (colsOf f).length := by rw [HL.out]; exact hlt
            rw [List.map_append, HX.out.1, List.take_succ_eq_append_getElem hkz]
            simp [colsOf])
          have HKr : Hid (Kp3 w₀.heap.size B1 B2 B3 W wi) := Lib.hid (HX.out.2.2.trans (Kp3.grown HY.out.2 (Nat.le_trans HGW.out.size (Nat.le_refl _)) HBr1.out.lt HBr2.out.lt HBr3.out.lt))
          clear hR HI0 HY
          go_wp2_with fail
          gi_wp2_with ((with_reducible refine HR.out.mono ?_); rintro e W' ⟨rfl, hJ2, hK2⟩)
          exact ⟨⟨k + 1, _, by omega, by go_num, Lib.hid ⟨HPN.out, hJ2, HKr.out.trans hK2⟩⟩, by simp [intOf]; omega⟩
        | succ m =>
          have hin : (i : Int) < (f.length : Int) := by omega
          have hiN : i < f.length := by omega
          have HSf := Lib.hid ((HF.out.kept HGW.out).kept HY.out.2)
          have hB2 := HBr2.out.kept HY.out.2 (by simp)
          have hB3 := HBr3.out.kept HY.out.2 (by simp)
          have hc3 := hB3.cell
          have HCT := Lib.hid (readsAt_any B2 _ f i k X wi hB2 HSf.out hiN hkb)
          have HSN := Lib.hid (colZ_snoc f i k hiN)
          have HUX : Hid (U64 (f[i][k]?.getD 0)) := Lib.hid (by
            obtain ⟨_, _, _, u, _, _, _, _, hsu⟩ := HSf.out.atS hiN
            exact getD_U64 k hsu)
          have HA := Lib.hid HY.out.1
          have HGY := Lib.hid HY.out.2
          have HLB : Hid (((colZ (f.take i) k).length + 1) * 8 ≤ 140737488355328) := Lib.hid (by rw [colZ_length]; simp; omega)
          clear hB2 hB3 HY HI0 HSf
          generalize f[i][k]?.getD 0 = y at *
          go_wp2_with fail
          refine HCT.out.mono ?_
          rintro e w' ⟨rfl, rfl⟩
          go_wp2_with (at_builtin; refine wpList_pushG rfl (.tmp 17) (.tmp 22) rfl (E := encU) el_u64 HGY.out HA.out (fun _ h => h) ⟨rfl, HUX.out⟩ HLB.out rfl rfl ?_)
          intro v2 w2 hacc2 hg2 hgo
          have HFIN : Hid (Acc encU wr.heap.size 22 (fun g => wr.heap.size ≤ g) w2 v2 (colZ (f.take (i + 1)) k) ∧ wr.grownBy w2 none) := Lib.hid ⟨by rw [HSN.out]; exact hacc2, hg2⟩
          clear hacc2 hg2 hgo hc3
          go_wp2_with fail
          go_roundg m
          case measure => omega
          case rel => exact ⟨i + 1, by omega, by go_num, HFIN⟩
    · obtain rfl : k = N := by omega
      gi_wp2
      go_end0
      exact ⟨⟨_, rfl⟩, pre, by rw [HX.out.1, ← HL.out, List.take_length], HX.out.2.1⟩
end Go.Proofs.YtiimippmihkgcaaGreatDoor

namespace Go.Proofs.YtiimippmihkgcaaGreatDoor
open Go Go.RowKit Go.Shelf

attribute [local go_sem] Oper.semAt_some
/-- The row, and the column, at a place. -/
def rowI (q : Int) (f : List (List Int)) (x : Int) : List Int := (List.range (wideI f)).map fun j => evalI q (colZ f j) x
def colV (q : Int) (f : List (List Int)) (y : Int) : List Int := f.map fun c => evalI q c y
/-- What the array holds behind some rounds. -/
def outArr (q x : Int) (n : Nat) (xs : List (Nat × List Int)) : List Int := xs.foldl (fun h e => h.set e.1 (evalI q e.2 x)) (List.replicate n 0)
theorem foldl_set_length (q x : Int) : ∀ (xs : List (Nat × List Int)) (h : List Int), (xs.foldl (fun h e => h.set e.1 (evalI q e.2 x)) h).length = h.length
  | [], _ => rfl
  | _ :: xs, _ => (foldl_set_length q x xs _).trans (List.length_set ..)
theorem outArr_length (q x : Int) (n : Nat) (xs : List (Nat × List Int)) : (outArr q x n xs).length = n := by
  unfold outArr
  rw [foldl_set_length]
  simp
theorem outArr_snoc (q x : Int) (n : Nat) (xs : List (Nat × List Int)) (e : Nat × List Int) : outArr q x n (xs ++ [e]) = (outArr q x n xs).set e.1 (evalI q e.2 x) := by simp [outArr]
theorem outArr_upto (q x : Int) (f : List (List Int)) (n : Nat) : ∀ k, k ≤ n → ∀ i (hi : i < (outArr q x n ((List.range k).map fun j => (j, colZ f j))).length), (outArr q x n ((List.range k).map fun j => (j, colZ f j)))[i] = if i < k then evalI q (colZ f i) x else 0
  | 0, _, i, hi => by simp [outArr]
  | k + 1, hk, i, hi => by
    have e : (List.range (k + 1)).map (fun j => (j, colZ f j)) = (List.range k).map (fun j => (j, colZ f j)) ++ [(k, colZ f k)] := by simp [List.range_succ]
    simp only [e, outArr_snoc]
    rw [List.getElem_set]
    split
    · rename_i h
      subst h
      simp
    · rename_i h
      rw [outArr_upto q x f n k (by omega) i]
      by_cases h1 : i < k
      · simp [h1, show i < k + 1 by omega]
      · simp [h1, show ¬ i < k + 1 by omega]
theorem outArr_all (q x : Int) (f : List (List Int)) : outArr q x (wideI f) (colsOf f) = rowI q f x := by
  refine List.ext_getElem (by rw [outArr_length]; simp [rowI]) fun i h1 h2 => ?_
  have h3 : i < wideI f := by rwa [outArr_length] at h1
  have := outArr_upto q x f (wideI f) (wideI f) (Nat.le_refl _) i h1
  rw [show (outArr q x (wideI f) (colsOf f))[i] = _ from this]
  simp [h3, rowI]
set_option maxRecDepth 100000 in
set_option maxHeartbeats 2000000 in
theorem row_in (n0 : Nat) (hn0 : 6 ≤ n0) (v : Value) (f : List (List Int)) (x q : Int) (X : Nat → Prop) (w : World) (hf : Sl (encS encU) X w v f) (hx : U64 x) (hl1 : f.length ≤ 100000) (hl2 : ∀ c ∈ f, c.length ≤ 100000) :
    CallsIn Fence.wide n0 Tryz.prog 51 #[v, .int .u64 x, .int .u64 q] w (Gives encU (fun g => w.heap.size ≤ g) w (rowI q f x)) := by
  have h1 : 1 ≤ n0 := by omega
  have HF := Lib.hid hf
  have HX := Lib.hid hx
  have HWB : Hid (wideI f ≤ 100000) := Lib.hid (wide_le f _ hl2)
  obtain ⟨A1, c1, rfl, _, _⟩ := hf.form
  have HWI := Lib.hid (fun w' (hw : w.grownBy w' none) => wide_any _ f X w' (hf.kept hw) hl2)
  clear hf hx
  obtain ⟨n, hn⟩ : ∃ n, n = wideI f := ⟨_, rfl⟩
  have HN := Lib.hid hn
  rw [← hn] at HWI HWB
  have hn9 : n ≤ 100000 := HWB.out
  have hmk := run_make_row' (P := Tryz.prog) 39 22 (.int .u64 0) 8 Tryz.underlying39 info_u64 rfl .i64 .i64 n (by omega) (by omega)
  have HG2 : Hid (w.grownBy ((w.alloc (.cells #[.int .u64 x] 22)).alloc (.cells #[.int .u64 q] 22)) none) := Lib.hid ((World.grownBy_alloc w _ none).trans (World.grownBy_alloc _ _ none))
  clear hn
  refine callsIn_of_wp_marks Tryz.func51 rfl trivial ?_ rfl
  simp only [Tryz.ntmps51, List.size_toArray, List.length_cons, List.length_nil, Nat.reduceAdd, Nat.reduceSub, Array.replicate_succ, Array.replicate_zero, List.push_toArray, List.append_toArray, List.nil_append, List.cons_append]
  gi_wp2_with (refine ⟨trivial, ?_⟩; refine (callsIn_wide.2 (HWI.out _ HG2.out)).mono ?_; rintro e w' ⟨rfl, hw'⟩; subst hw')
  have HBS : Hid (Bk ((((w.alloc (.cells #[.int .u64 x] 22)).alloc (.cells #[.int .u64 q] 22)).alloc (.cells (madeCells #[.int .u64 0] n) 22)).alloc (.cells #[.slice (some ⟨w.heap.size + 1 + 1, 0, none⟩) n n] 39)) w.heap.size 22 #[.int .u64 x] ∧ Bk ((((w.alloc (.cells #[.int .u64 x] 22)).alloc (.cells #[.int .u64 q] 22)).alloc (.cells (madeCells #[.int .u64 0] n) 22)).alloc (.cells #[.slice (some ⟨w.heap.size + 1 + 1, 0, none⟩) n n] 39)) (w.heap.size + 1) 22 #[.int .u64 q] ∧ Bk ((((w.alloc (.cells #[.int .u64 x] 22)).alloc (.cells #[.int .u64 q] 22)).alloc (.cells (madeCells #[.int .u64 0] n) 22)).alloc (.cells #[.slice (some ⟨w.heap.size + 1 + 1, 0, none⟩) n n] 39)) (w.heap.size + 1 + 1) 22 (nums (List.replicate n 0)).toArray ∧ Boxed ((((w.alloc (.cells #[.int .u64 x] 22)).alloc (.cells #[.int .u64 q] 22)).alloc (.cells (madeCells #[.int .u64 0] n) 22)).alloc (.cells #[.slice (some ⟨w.heap.size + 1 + 1, 0, none⟩) n n] 39)) (w.heap.size + 1 + 1 + 1) 39 (.slice (some ⟨w.heap.size + 1 + 1, 0, none⟩) n n) ∧ w.grownBy ((((w.alloc (.cells #[.int .u64 x] 22)).alloc (.cells #[.int .u64 q] 22)).alloc (.cells (madeCells #[.int .u64 0] n) 22)).alloc (.cells #[.slice (some ⟨w.heap.size + 1 + 1, 0, none⟩) n n] 39)) none ∧ ((((w.alloc (.cells #[.int .u64 x] 22)).alloc (.cells #[.int .u64 q] 22)).alloc (.cells (madeCells #[.int .u64 0] n) 22)).alloc (.cells #[.slice (some ⟨w.heap.size + 1 + 1, 0, none⟩) n n] 39)).heap.size = w.heap.size + 1 + 1 + 1 + 1) := Lib.hid (by
    have e1 : (w.alloc (.cells #[.int .u64 x] 22)).heap.size = w.heap.size + 1 := by simp
    have e2 : ((w.alloc (.cells #[.int .u64 x] 22)).alloc (.cells #[.int .u64 q] 22)).heap.size = w.heap.size + 1 + 1 := by simp
    have e3 : (((w.alloc (.cells #[.int .u64 x] 22)).alloc (.cells #[.int .u64 q] 22)).alloc (.cells (madeCells #[.int .u64 0] n) 22)).heap.size = w.heap.size + 1 + 1 + 1 := by simp
    have b1 := (Bk.new (w.alloc (.cells #[.int .u64 x] 22)) 22 #[.int .u64 q]).alloc (.cells (madeCells #[.int .u64 0] n) 22) |>.alloc (.cells #[.slice (some ⟨w.heap.size + 1 + 1, 0, none⟩) n n] 39)
    have b2 := (Bk.new ((w.alloc (.cells #[.int .u64 x] 22)).alloc (.cells #[.int .u64 q] 22)) 22 (madeCells #[.int .u64 0] n)).alloc (.cells #[.slice (some ⟨w.heap.size + 1 + 1, 0, none⟩) n n] 39)
    have b3 := Boxed.new (((w.alloc (.cells #[.int .u64 x] 22)).alloc (.cells #[.int .u64 q] 22)).alloc (.cells (madeCells #[.int .u64 0] n) 22)) 39 (.slice (some ⟨w.heap.size + 1 + 1, 0, none⟩) n n)
    rw [e1] at b1
    rw [e2] at b2
    rw [e3] at b3
    exact ⟨(((Bk.new w 22 #[.int .u64 x]).alloc _).alloc _).alloc _, b1, b2.of_eq (Array.toList_inj.1 (by rw [toList_madeCells_one]; simp [nums])), b3, (HG2.out.trans (World.grownBy_alloc _ _ none)).trans (World.grownBy_alloc _ _ none), by simp⟩)
  have HCO := Lib.hid (columns_any A1 f.length c1 ((((w.alloc (.cells #[.int .u64 x] 22)).alloc (.cells #[.int .u64 q] 22)).alloc (.cells (madeCells #[.int .u64 0] n) 22)).alloc (.cells #[.slice (some ⟨w.heap.size + 1 + 1, 0, none⟩) n n] 39)))
  obtain ⟨Wm, hWm⟩ : ∃ Wm, ((((w.alloc (.cells #[.int .u64 x] 22)).alloc (.cells #[.int .u64 q] 22)).alloc (.cells (madeCells #[.int .u64 0] n) 22)).alloc (.cells #[.slice (some ⟨w.heap.size + 1 + 1, 0, none⟩) n n] 39)) = Wm := ⟨_, rfl⟩
  rw [hWm] at HBS HCO ⊢
  clear hWm hmk HWI HG2
  refine ⟨trivial, ?_⟩
  refine (callsIn_wide.2 HCO.out).mono ?_
  rintro e W0 ⟨rfl, b1, b2, b3, hg, hsz⟩
  clear HCO
  obtain ⟨k1, k2, k3, k4, k5, k6⟩ := HBS.out
  have bx := k1.grown hg (by simp)
  have bq := k2.grown hg (by simp)
  have bo := k3.grown hg (by simp)
  have bs := k4.kept hg (by simp)
  have hB0 : Below w.heap.size w W0 := below_grown (k5.trans hg)
  rw [k6] at b1 b2 b3 hsz ⊢
  clear k1 k2 k3 k4 k5 k6 hg HBS
  dsimp only
  gi_wp2
  refine wpIn_rangeFunc_goes rfl h1 (gf := 126) (lb := #[.pointer (some ⟨w.heap.size + 1 + 1 + 1 + 1, 0, none⟩), .pointer (some ⟨w.heap.size + 1 + 1 + 1 + 1 + 1 + 1, 0, none⟩)]) rfl trivial (enters_of Tryz.func126 (by kernel_rfl) rfl)
    (columns_goes (n0 - 1) (by omega) _ _ _ _ f X w W0 hB0 b1 b2 b3 HF.out hl1 hl2) Kp3.trans (Kp3.b (by omega) (by omega) (by omega) (by omega)) (Below.refl _ _) (fun _ => rfl)
    (fun pre W => Bk W w.heap.size 22 #[.int .u64 x] ∧ Bk W (w.heap.size + 1) 22 #[.int .u64 q] ∧ Bk W (w.heap.size + 1 + 1) 22 (nums (outArr q x n (pre.map fun e : Colx => (e.j, e.c)))).toArray ∧ Boxed W (w.heap.size + 1 + 1 + 1) 39 (.slice (some ⟨w.heap.size + 1 + 1, 0, none⟩) n n) ∧ Below w.heap.size w W ∧ W0.heap.size ≤ W.heap.size)
    (fun pre X' Y row hs hg hrow => by
      obtain ⟨s1, s2, s3, s4, s5, s6⟩ := hs
      have hr' := fun r e => (hrow r e).2
      have l3 := s3.lt
      have n3 : some (w.heap.size + 1 + 1) ≠ row := fun e => by
        obtain ⟨o, ho, hc⟩ := hr' _ e.symm
        rw [show X'.heap[w.heap.size + 1 + 1]? = _ from s3] at ho
        cases ho
        cases hc
      exact ⟨s1.grown hg (cell_ne (s1.cell 0) hr'), s2.grown hg (cell_ne (s2.cell 0) hr'), s3.grown hg n3, s4.kept hg (boxNe s4 hr'), s5.grown hg s5.size (fun k e => by have := (hrow k e).1; omega), Nat.le_trans s6 hg.size⟩)
    ⟨bx, bq, by simpa [outArr] using bo, bs, hB0, Nat.le_refl _⟩
    (fun e a' W => (Sl encU (fun g => W0.heap.size ≤ g) W e.v e.c ∧ e.j < n) ∧ a' = { tmps := #[.slice A1 f.length c1, .int .u64 x, .int .u64 q, undef, .pointer (some ⟨w.heap.size, 0, none⟩), .pointer (some ⟨w.heap.size + 1, 0, none⟩), .slice none 0 0, .pointer (some ⟨w.heap.size + 1 + 1 + 1, 0, none⟩), .int .i64 e.j, e.v, .slice A1 f.length c1, .int .i64 n, .slice (some ⟨w.heap.size + 1 + 1, 0, none⟩) n n, .slice A1 f.length c1, .func (.func 126) #[] #[.pointer (some ⟨w.heap.size + 1 + 1 + 1 + 1, 0, none⟩), .pointer (some ⟨w.heap.size + 1 + 1 + 1 + 1 + 1 + 1, 0, none⟩)], .int .i64 e.j, e.v, undef, undef, undef, undef, undef, undef, undef, undef], defers := [] })
    (fun e a' _ X' Y row hs hg hrow => ⟨⟨hs.1.1.keepc hg (fun r e => (hrow r e).2), hs.1.2⟩, hs.2⟩)
    ?assign ?body ?done
  case assign =>
    rintro l pre e W K hi hfx hK
    have hfx2 : e.j < n := by have := hfx.2; rwa [← HN.out] at this
    have hfx1 := hfx.1
    have hk2 := hK _ W (KeepsFrom.refl _ _) (Kp3.refl _ _ _ _ _) hi ⟨⟨hfx1, hfx2⟩, rfl⟩
    clear hK hi hfx
    gi_wp2
    exact hk2
  case body =>
    rintro l pre ⟨j, vc, lc⟩ a' W hl ⟨hbx, hbq, hbo, hbs, hbl, hws⟩ ⟨⟨hsl, hjn⟩, rfl⟩ hlt
    have hsl : Sl encU (fun g => W0.heap.size ≤ g) W vc lc := hsl
    have hjn : j < n := hjn
    obtain ⟨Ac, cc, rfl, _, _⟩ := hsl.form
    have hj0 : (0 : Int) ≤ (j : Int) := by omega
    have hjI : (j : Int) < (n : Int) := by omega
    have HBX : Hid (Boxed W.drew (w.heap.size + 1 + 1 + 1) 39 (.slice (some ⟨w.heap.size + 1 + 1, 0, none⟩) n n)) := Lib.hid hbs
    have HBx : Hid (Bk W.drew w.heap.size 22 #[.int .u64 x]) := Lib.hid (hbx.drewN 1)
    have HBq : Hid (Bk W.drew (w.heap.size + 1) 22 #[.int .u64 q]) := Lib.hid (hbq.drewN 1)
    have HBO : Hid (Bk W.drew (w.heap.size + 1 + 1) 22 (nums (outArr q x n (pre.map fun e : Colx => (e.j, e.c)))).toArray) := Lib.hid (hbo.drewN 1)
    have HEV : Hid (∀ w', W.drew.grownBy w' none → Calls Tryz.prog 43 #[.slice Ac lc.length cc, .int .u64 x, .int .u64 q] w' fun e w'' => e = .returned (.int .u64 (evalI q lc x)) ∧ w'.grownBy w'' none) := Lib.hid (fun w' hw => eval_any _ lc x q _ w' (hsl.kept ((grown_drewN' W 1).trans hw)) HX.out)
    have HBL := Lib.hid hbl
    have HLL : Hid ((outArr q x n (pre.map fun e : Colx => (e.j, e.c))).length = n) := Lib.hid (outArr_length _ _ _ _)
    have HSN : Hid (outArr q x n ((pre ++ [(⟨j, .slice Ac lc.length cc, lc⟩ : Colx)]).map fun e : Colx => (e.j, e.c)) = (outArr q x n (pre.map fun e : Colx => (e.j, e.c))).set j (evalI q lc x)) := Lib.hid (by rw [List.map_append]; exact outArr_snoc _ _ _ _ _)
    have HWL : Hid (w.heap.size + 1 + 1 + 1 + 1 + 1 + 1 + 1 = W0.heap.size ∧ W0.heap.size ≤ W.heap.size) := Lib.hid ⟨by rw [hsz], hws⟩
    have HWW : Hid (w.heap.size + 1 + 1 + 1 + 1 + 1 + 1 < W.heap.size) := Lib.hid (by omega)
    obtain ⟨H0, hH0⟩ : ∃ H0, H0 = outArr q x n (pre.map fun e : Colx => (e.j, e.c)) := ⟨_, rfl⟩
    rw [← hH0] at HBO HLL HSN
    obtain ⟨ev, hev⟩ : ∃ ev, ev = evalI q lc x := ⟨_, rfl⟩
    have HEVE := Lib.hid hev
    clear hbx hbq hbo hbs hbl hsl hlt hH0 hev
    dsimp only
    gi_wp2
    refine wpIn_round_any (l0 := l) (R := fun _ W5 => KeepsFrom W0.heap.size W W5 ∧ Kp3 w.heap.size (w.heap.size + 1 + 1 + 1 + 1) (w.heap.size + 1 + 1 + 1 + 1 + 1) (w.heap.size + 1 + 1 + 1 + 1 + 1 + 1) W W5 ∧ Bk W5 w.heap.size 22 #[.int .u64 x] ∧ Bk W5 (w.heap.size + 1) 22 #[.int .u64 q] ∧ Bk W5 (w.heap.size + 1 + 1) 22 (nums (outArr q x n ((pre ++ [(⟨j, .slice Ac lc.length cc, lc⟩ : Colx)]).map fun e : Colx => (e.j, e.c)))).toArray ∧ Boxed W5 (w.heap.size + 1 + 1 + 1) 39 (.slice (some ⟨w.heap.size + 1 + 1, 0, none⟩) n n) ∧ Below w.heap.size w W5 ∧ W0.heap.size ≤ W5.heap.size) (by kernel_rfl) (by kernel_rfl) (fun a w h => ⟨rfl, h⟩) ?_
    refine wpAny_monoR 7 (by kernel_rfl) ?_
    -- op 0 (slot 17): load
    refine MonoR.step (Pv.eq (.slice (some ⟨w.heap.size + 1 + 1, 0, none⟩) n n)) [] (by kernel_rfl) (fun w' hw' => ?_) ?_
    · refine ask_do rfl fun K hK => ?_
      have hb7 := (HBX.out.kept hw' (by simp)).cell
      have hb4 := (HBx.out.grown hw' (by simp)).cell 0
      have hb5 := (HBq.out.grown hw' (by simp)).cell 0
      simp at hb4 hb5
      go_simp
      exact hK _ _ rfl rfl (World.grownBy.refl _ none)
    -- op 1 (slot 18): move
    refine MonoR.step (Pv.eq (.int .i64 (j : Int))) [] (by kernel_rfl) (fun w' hw' => ?_) ?_
    · refine ask_do rfl fun K hK => ?_
      go_simp
      exact hK _ _ rfl rfl (World.grownBy.refl _ none)
    -- op 2 (slot 19): move
    refine MonoR.step (Pv.eq (.slice Ac lc.length cc)) [] (by kernel_rfl) (fun w' hw' => ?_) ?_
    · refine ask_do rfl fun K hK => ?_
      go_simp
      exact hK _ _ rfl rfl (World.grownBy.refl _ none)
    -- op 3 (slot 20): load
    refine MonoR.step (Pv.eq (.int .u64 x)) [] (by kernel_rfl) (fun w' hw' => ?_) ?_
    · refine ask_do rfl fun K hK => ?_
      have hb7 := (HBX.out.kept hw' (by simp)).cell
      have hb4 := (HBx.out.grown hw' (by simp)).cell 0
      have hb5 := (HBq.out.grown hw' (by simp)).cell 0
      simp at hb4 hb5
      go_simp
      exact hK _ _ rfl rfl (World.grownBy.refl _ none)
    -- op 4 (slot 21): load
    refine MonoR.step (Pv.eq (.int .u64 q)) [] (by kernel_rfl) (fun w' hw' => ?_) ?_
    · refine ask_do rfl fun K hK => ?_
      have hb7 := (HBX.out.kept hw' (by simp)).cell
      have hb4 := (HBx.out.grown hw' (by simp)).cell 0
      have hb5 := (HBq.out.grown hw' (by simp)).cell 0
      simp at hb4 hb5
      go_simp
      exact hK _ _ rfl rfl (World.grownBy.refl _ none)
    -- op 5 (slot 22): call
    refine MonoR.step (Pv.eq (.int .u64 (evalI q lc x))) [(2, 19), (3, 20), (4, 21)] (by kernel_rfl) (fun w' hw' => ?_) ?_
    · rintro _ rfl
      rintro _ rfl
      rintro _ rfl
      refine ask_do rfl fun K hK => ?_
      go_simp
      refine (HEV.out w' hw').mono ?_
      rintro e w3 ⟨rfl, hg⟩
      exact hK _ _ rfl rfl hg
    -- op 6 (slot 23): indexAddr
    refine MonoR.step (Pv.eq (.pointer (some ⟨w.heap.size + 1 + 1, j, none⟩))) [(0, 17), (1, 18)] (by kernel_rfl) (fun w' hw' => ?_) ?_
    · rintro _ rfl
      rintro _ rfl
      refine ask_do rfl fun K hK => ?_
      go_simp
      exact hK _ _ rfl rfl (World.grownBy.refl _ none)
    intro w3 hw3
    iterate 5 (intro _ _)
    rintro _ rfl
    rintro _ rfl
    have hbo3 := HBO.out.grown hw3 (by simp)
    have hcl : w3.cell? ⟨w.heap.size + 1 + 1, j, none⟩ = some (.int .u64 (H0[j]'(by rw [HLL.out]; exact hjn))) := by rw [hbo3.cell j]; simp [nums, HLL.out, hjn]
    have hfr := hbo3.free j
    have hgd : W.grownBy w3 none := (grown_drewN' W 1).trans hw3
    have hbo5 := (hbo3.set j (.int .u64 ev)).of_eq (cs' := (nums (H0.set j ev)).toArray) (by simp [nums, List.map_set])
    have hbx5 := (HBx.out.grown hw3 (by simp)).far (p := ⟨w.heap.size + 1 + 1, j, none⟩) (by simp; omega) (.int .u64 ev)
    have hbq5 := (HBq.out.grown hw3 (by simp)).far (p := ⟨w.heap.size + 1 + 1, j, none⟩) (by simp) (.int .u64 ev)
    have hbs5 := Bk.far (HBX.out.kept hw3 (by simp)) (p := ⟨w.heap.size + 1 + 1, j, none⟩) (by simp) (.int .u64 ev)
    have hkf : KeepsFrom W0.heap.size W (w3.setCell ⟨w.heap.size + 1 + 1, j, none⟩ (.int .u64 ev)) := ((keeps_none hgd).trans (KeepsOthers.setCell _ _ _)).from _
    have hWS : w.heap.size + 1 + 1 + 1 + 1 + 1 + 1 < W.heap.size := HWW.out
    have hkp : Kp3 w.heap.size (w.heap.size + 1 + 1 + 1 + 1) (w.heap.size + 1 + 1 + 1 + 1 + 1) (w.heap.size + 1 + 1 + 1 + 1 + 1 + 1) W (w3.setCell ⟨w.heap.size + 1 + 1, j, none⟩ (.int .u64 ev)) :=
      (Kp3.grown hgd (by omega) (by omega) (by omega) hWS).trans ⟨(Below.refl _ w3).setCell (p := ⟨w.heap.size + 1 + 1, j, none⟩) (by simp; omega) _, Below.heap_setCell w3 _ _ _ (by simp; omega), Below.heap_setCell w3 _ _ _ (by simp; omega), Below.heap_setCell w3 _ _ _ (by simp; omega)⟩
    have hbl5 : Below w.heap.size w (w3.setCell ⟨w.heap.size + 1 + 1, j, none⟩ (.int .u64 ev)) := (HBL.out.trans ((below_grown hgd).mono (by omega))).setCell (p := ⟨w.heap.size + 1 + 1, j, none⟩) (by simp; omega) _
    rw [HSN.out, ← HEVE.out]
    have FIN := Lib.hid (And.intro hkf (And.intro hkp (And.intro hbx5 (And.intro hbq5 (And.intro hbo5 (And.intro hbs5 (And.intro hbl5 (show W0.heap.size ≤ (w3.setCell ⟨w.heap.size + 1 + 1, j, none⟩ (.int .u64 ev)).heap.size by have := hgd.size; have := HWL.out.2; simp; omega))))))))
    clear hbo3 hgd hbo5 hbx5 hbq5 hbs5 hkf hkp hbl5 hw3
    rw [HEVE.out] at FIN
    rw [HEVE.out]
    refine wpList_plain rfl fun K hK => ?_
    go_simp
    refine hK _ _ (wpList_nil ?_)
    exact ⟨rfl, FIN.out⟩
  case done =>
    rintro D zs W hD hzs ⟨hbx, hbq, hbo, hbs, hbl, _⟩ hK
    have hcs := hbs.cell
    rw [hzs, HN.out, outArr_all] at hbo
    have hlen : (rowI q f x).length = n := by simp [rowI, HN.out]
    have HR : Hid (Sl encU (fun g => w.heap.size ≤ g) (W.putObj D (.deferred none)) (.slice (some ⟨w.heap.size + 1 + 1, 0, none⟩) n n) (rowI q f x) ∧ w.grownBy (W.putObj D (.deferred none)) none) := Lib.hid ⟨by
      have hb2 := hbo.grown (grownBy_putObj' W D (.deferred none)) (fun e => by injection e with e; omega)
      have := Sl.block (E := encU) (X := fun g => w.heap.size ≤ g) (xs := rowI q f x) (c := n) hb2 (by omega) ((nums (rowI q f x)).map fun v => [v]) (by simp [nums]) (fun i hi hi' => ⟨by simp [nums], by simp only [rowI, List.getElem_map]; exact evalI_U64 _ _ _⟩) (by rw [flatten_singles]) (by rw [hlen]; exact Nat.le_refl _) (by omega)
      rwa [hlen] at this, grown_of_below (hbl.trans (belowK_b (w := w) (Nat.le_refl _) W D _ _ (by omega) hK rfl rfl))⟩
    clear hbo hbx hbq hbs hbl
    gi_wp2
    refine ⟨by simp, .inl ⟨_, _, rfl, run_takeDeferred hK, ?_⟩⟩
    refine ⟨_, results_tmp rfl _ _ _, .slice (some ⟨w.heap.size + 1 + 1, 0, none⟩) n n, rfl, HR.out.1, HR.out.2⟩
end Go.Proofs.YtiimippmihkgcaaGreatDoor

namespace Go.Proofs.YtiimippmihkgcaaGreatDoor
open Go Go.RowKit

def colArr (q y : Int) (f : List (List Int)) (j : Nat) : List Int := (f.take j).map (fun c => evalI q c y) ++ List.replicate (f.length - j) 0
theorem colArr_length (q y : Int) (f : List (List Int)) (j : Nat) (h : j ≤ f.length) : (colArr q y f j).length = f.length := by simp [colArr]; omega
theorem colArr_set (q y : Int) (f : List (List Int)) (j : Nat) (h : j < f.length) : (colArr q y f j).set j (evalI q f[j] y) = colArr q y f (j + 1) := by
  refine List.ext_getElem (by rw [List.length_set, colArr_length _ _ _ _ (by omega), colArr_length _ _ _ _ (by omega)]) fun i h1 h2 => ?_
  rw [colArr_length _ _ _ _ (by omega)] at h2
  rw [List.getElem_set]
  split
  · rename_i e
    subst e
    simp only [colArr]
    rw [List.getElem_append_left (by simp; omega)]
    simp
  · rename_i e
    simp only [colArr]
    by_cases hi : i < j
    · rw [List.getElem_append_left (by simp; omega), List.getElem_append_left (by simp; omega)]
      simp
    · rw [List.getElem_append_right (by simp; omega), List.getElem_append_right (by simp; omega)]
      simp
set_option maxRecDepth 100000 in
set_option maxHeartbeats 1000000 in
theorem col_any (v : Value) (f : List (List Int)) (y q : Int) (X : Nat → Prop) (w : World) (hf : Sl (encS encU) X w v f) (hy : U64 y) (hl1 : f.length ≤ 100000) :
    Calls Tryz.prog 52 #[v, .int .u64 y, .int .u64 q] w (Gives encU (fun g => w.heap.size ≤ g) w (colV q f y)) := by
  have HF := Lib.hid hf
  have HY := Lib.hid hy
  obtain ⟨A, c, rfl, hc1, hc2⟩ := hf.form
  clear hf hy
  have hmk := run_make_row' (P := Tryz.prog) 39 22 (.int .u64 0) 8 Tryz.underlying39 info_u64 rfl .i64 .i64 f.length (by omega) (by omega)
  have HST : Hid (Bk (w.alloc (.cells (madeCells #[.int .u64 0] f.length) 22)) w.heap.size 22 (nums (colArr q y f 0)).toArray ∧ w.grownBy (w.alloc (.cells (madeCells #[.int .u64 0] f.length) 22)) none) := Lib.hid ⟨(Bk.new w 22 (madeCells #[.int .u64 0] f.length)).of_eq (Array.toList_inj.1 (by rw [toList_madeCells_one]; simp [nums, colArr])), World.grownBy_alloc w _ none⟩
  go_enter Tryz.func52, Tryz.ntmps52
  go_wp2_with fail
  go_loopg [15] f.length (fun g s15 wx => ∃ j : Nat, j + g = f.length ∧ s15 = .int .i64 j ∧ Hid (Bk wx w.heap.size 22 (nums (colArr q y f j)).toArray ∧ w.grownBy wx none))
  case atStart => exact ⟨0, by omega, rfl, HST⟩
  case round =>
    obtain ⟨j, hj, rfl, HX⟩ := hrel
    cases gk with
    | zero =>
      obtain rfl : j = f.length := by omega
      have HR : Hid (Sl encU (fun g => w.heap.size ≤ g) wr (.slice (some ⟨w.heap.size, 0, none⟩) f.length f.length) (colV q f y) ∧ w.grownBy wr none) := Lib.hid ⟨by
        have h1 := HX.out.1
        rw [show colArr q y f f.length = colV q f y by simp [colArr, colV]] at h1
        have := Sl.block (E := encU) (X := fun g => w.heap.size ≤ g) (xs := colV q f y) (c := f.length) h1 (Nat.le_refl _) ((nums (colV q f y)).map fun v => [v]) (by simp [nums]) (fun i hi hi' => ⟨by simp [nums], by simp only [colV, List.getElem_map]; exact evalI_U64 _ _ _⟩) (by rw [flatten_singles]) (by simp [colV]) (by omega)
        rwa [show (colV q f y).length = f.length by simp [colV]] at this, HX.out.2⟩
      clear HX HST hmk
      go_wp2
      go_ret
      exact ⟨_, rfl, HR.out.1, HR.out.2⟩
    | succ m =>
      have hjn : (j : Int) < (f.length : Int) := by omega
      have hjN : j < f.length := by omega
      have hj0 : (0 : Int) ≤ (j : Int) := by omega
      obtain ⟨g, o, c', u, e, _, _, hcu, hsu⟩ := (HF.out.kept HX.out.2).atS hjN
      injection e with e1 e2 e3
      subst e1 e3
      obtain ⟨A1, c1, e1, _, _⟩ := hsu.form
      subst e1
      have HEV := Lib.hid (eval_any _ f[j] y q _ wr hsu HY.out)
      have HSN := Lib.hid (colArr_set q y f j hjN)
      have HLL := Lib.hid (colArr_length q y f j (by omega))
      have HB := Lib.hid HX.out.1
      have HG := Lib.hid HX.out.2
      clear hsu e2 HX HST hmk
      generalize colArr q y f j = H0 at *
      generalize f[j] = L at *
      generalize L.length = n1 at *
      go_wp2_with fail
      refine HEV.out.mono ?_
      rintro e w1 ⟨rfl, hg1⟩
      have hb1 := HB.out.grown hg1 (by simp)
      have hcl : w1.cell? ⟨w.heap.size, j, none⟩ = some (.int .u64 (H0[j]'(by rw [HLL.out]; exact hjN))) := by rw [hb1.cell j]; simp [nums, HLL.out, hjN]
      have hfr := hb1.free j
      have HFIN : Hid (Bk (w1.setCell ⟨w.heap.size, j, none⟩ (.int .u64 (evalI q L y))) w.heap.size 22 (nums (colArr q y f (j + 1))).toArray ∧ w.grownBy (w1.setCell ⟨w.heap.size, j, none⟩ (.int .u64 (evalI q L y))) none) := Lib.hid ⟨(hb1.set j _).of_eq (by rw [← HSN.out]; simp [nums, List.map_set]), grown_up (HG.out.trans hg1) (grownBy_set (World.grownBy.refl _ (some w.heap.size)) j _) (fun g e => by injection e with e; omega)⟩
      clear hg1 hb1
      go_wp2_with fail
      go_roundg m
      case measure => omega
      case rel => exact ⟨j + 1, by omega, by go_num, HFIN⟩
end Go.Proofs.YtiimippmihkgcaaGreatDoor

namespace Go.Proofs.YtiimippmihkgcaaGreatDoor
open Go Go.RowKit Go.Shelf

theorem info_pairs2 : (Tryz.prog.info? 34).map (fun i => (i.zero, i.size, i.bytes)) = some (some (.slice none 0 0), 1, 24) := by kernel_rfl
theorem el_pairs2 : ElemOk Tryz.prog 46 34 1 24 := ElemOk.mk' (by decide) Tryz.underlying46 info_pairs2 rfl
/-- A polynomial of two that is drawn. -/
def twoL (x q : Int) (dr : Nat → Int) (t k : Nat) : List (List Int) := chk t (behI x q dr (t * t - 1) k) t
def makeF (l : List (Int × Int)) (q : Int) (dr : Nat → Int) (t k s : Nat) : List (List Int) := twoL (l[s]?.getD (0, 0)).1 q dr t (k + s * (2 * (t * t - 1)))
def makeB (l : List (Int × Int)) (q : Int) (dr : Nat → Int) (t k s : Nat) : List (List Int) := twoL (l[s]?.getD (0, 0)).2 q dr t (k + s * (2 * (t * t - 1)) + (t * t - 1))
def makeFs (l : List (Int × Int)) (q : Int) (dr : Nat → Int) (t k n : Nat) : List (List (List Int)) := (List.range n).map (makeF l q dr t k)
def makeBs (l : List (Int × Int)) (q : Int) (dr : Nat → Int) (t k n : Nat) : List (List (List Int)) := (List.range n).map (makeB l q dr t k)
theorem hsnoc {α : Type} (f : Nat → α) (n : Nat) : (List.range (n + 1)).map f = (List.range n).map f ++ [f n] := by simp [List.range_succ]
/-- What member j gets of each secret. -/
def rowP (q : Int) (F B : List (List (List Int))) (t : Nat) (j : Int) (s : Nat) : List (Int × Int) := zipP (rowI q (F[s]?.getD []) j) (rowI q (B[s]?.getD []) j) t
def colP (q : Int) (F B : List (List (List Int))) (t : Nat) (j : Int) (s : Nat) : List (Int × Int) := zipP (colV q (F[s]?.getD []) j) (colV q (B[s]?.getD []) j) t
def rowsP (q : Int) (F B : List (List (List Int))) (t : Nat) (j : Int) : List (List (Int × Int)) := (List.range F.length).map (rowP q F B t j)
def colsP (q : Int) (F B : List (List (List Int))) (t : Nat) (j : Int) : List (List (Int × Int)) := (List.range F.length).map (colP q F B t j)
/-- A square. -/
def SqL (t : Nat) (M : List (List Int)) : Prop := M.length = t ∧ ∀ c ∈ M, c.length = t
theorem twoL_sq (x q : Int) (dr : Nat → Int) (t k : Nat) (ht : 1 ≤ t) : SqL t (twoL x q dr t k) := by
  refine ⟨chk_length _ _ _, fun c hc => ?_⟩
  obtain ⟨i, hi, rfl⟩ := List.mem_map.1 hc
  have hi2 : i < t := List.mem_range.1 hi
  have h1 : (i + 1) * t ≤ t * t := Nat.mul_le_mul_right _ hi2
  have h2 : 1 * 1 ≤ t * t := Nat.mul_le_mul ht ht
  rw [Nat.add_mul, Nat.one_mul] at h1
  rw [List.length_take, List.length_drop, behI_len]
  omega
theorem makeFs_sq (l : List (Int × Int)) (q : Int) (dr : Nat → Int) (t k n : Nat) (ht : 1 ≤ t) : ∀ M ∈ makeFs l q dr t k n, SqL t M := fun M hM => by
  obtain ⟨i, _, rfl⟩ := List.mem_map.1 hM
  exact twoL_sq _ _ _ _ _ ht
theorem makeBs_sq (l : List (Int × Int)) (q : Int) (dr : Nat → Int) (t k n : Nat) (ht : 1 ≤ t) : ∀ M ∈ makeBs l q dr t k n, SqL t M := fun M hM => by
  obtain ⟨i, _, rfl⟩ := List.mem_map.1 hM
  exact twoL_sq _ _ _ _ _ ht
theorem foldl_same (t : Nat) : ∀ (M : List (List Int)) (n : Nat), (∀ c ∈ M, c.length = t) → M.foldl (fun n c => max n c.length) n = if M = [] then n else max n t
  | [], n, _ => rfl
  | c :: M, n, h => by
    rw [List.foldl_cons, foldl_same t M _ (fun c hc => h c (List.mem_cons_of_mem _ hc)), h c List.mem_cons_self]
    split <;> simp
theorem wide_sqL {t : Nat} {M : List (List Int)} (h : SqL t M) : wideI M = t := by
  unfold wideI
  rw [foldl_same t M 0 h.2]
  obtain ⟨h1, _⟩ := h
  split
  · rename_i e
    rw [e] at h1
    exact h1
  · omega
theorem rowI_sqL {t : Nat} {M : List (List Int)} (h : SqL t M) (q x : Int) : (rowI q M x).length = t := by simp [rowI, wide_sqL h]
theorem colV_sqL {t : Nat} {M : List (List Int)} (h : SqL t M) (q x : Int) : (colV q M x).length = t := by simp [colV, h.1]
/-- The worlds while two lists of a struct are appended to, one behind the other. -/
def twLt {α : Type} (E : Enc α) (ty tE : TypeId) (w4 : World) (Bd lo hi : Nat) (cs : Array Value) (vW vB vy vz : Value) (xs ys : List α) (y z : α) : Lt where
  C vs w := w4.grownBy w (some Bd) ∧ Bk w Bd ty cs ∧ hi ≤ w.heap.size ∧ E.rep (fun g => lo ≤ g ∧ g < hi) w [vy] y ∧ E.rep (fun g => lo ≤ g ∧ g < hi) w [vz] z ∧ match vs with
    | [] => Side E E w4.heap.size tE tE (fun g => w4.heap.size ≤ g) w vW vB xs ys
    | [u] => Side E E w4.heap.size tE tE (fun g => w4.heap.size ≤ g) w u vB (xs ++ [y]) ys ∧ ∀ g, u.ownBlock = some g → g < lo ∨ hi ≤ g
    | [u, u2] => Side E E w4.heap.size tE tE (fun g => w4.heap.size ≤ g) w u u2 (xs ++ [y]) (ys ++ [z])
    | _ => False
  R q w w' := w.grownBy w' (if q = 0 then vW.ownBlock else vB.ownBlock)
  g := fun {vs w w'} h hg => by
    obtain ⟨h1, h2, h3, h4, h5, h6⟩ := h
    refine ⟨h1.trans (hg.but _), h2.grown hg (by simp), Nat.le_trans h3 hg.size, E.keep h4 hg (by simp), E.keep h5 hg (by simp), ?_⟩
    match vs, h6 with
    | [], h6 => exact h6.kept hg
    | [u], h6 => exact ⟨h6.1.kept hg, h6.2⟩
    | [u, u2], h6 => exact h6.kept hg
def twQ {α : Type} {E : Enc α} {ty tE : TypeId} {w4 : World} {Bd lo hi : Nat} {cs : Array Value} {vW vB vy vz : Value} {xs ys : List α} {y z : α} (hW : ∀ g, vW.ownBlock = some g → g < lo) (hB : ∀ g, vB.ownBlock = some g → g < lo) (t : TypeId) (u : Value) : Qv (twLt E ty tE w4 Bd lo hi cs vW vB vy vz xs ys y z) where
  p _ v w := BlkQ lo t u v w
  fr := 0
  st := fun ⟨b, e, hb, hk⟩ hg => ⟨b, e, hb, hk.grown hg (by simp)⟩
  sr := fun {vs _ v w w'} _ _ hR ⟨b, e, hb, hk⟩ => by
    refine ⟨b, e, hb, hk.grown hR fun e => ?_⟩
    split at e
    · have := hW b e.symm; omega
    · have := hB b e.symm; omega
section
variable {α : Type} {E : Enc α} {ty tE : TypeId} {w4 w' w3 : World} {Bd lo hi : Nat} {cs : Array Value} {vW vB vy vz u v3 : Value} {xs ys : List α} {y z : α}
theorem twLt_one (hC : (twLt E ty tE w4 Bd lo hi cs vW vB vy vz xs ys y z).C [] w') (ha : Acc E w4.heap.size tE (fun g => w4.heap.size ≤ g ∧ some g ≠ vB.ownBlock) w3 v3 (xs ++ [y])) (hgr : w'.grownBy w3 vW.ownBlock) (hm : Moved w' vW v3) (hW : ∀ g, vW.ownBlock = some g → g < lo) (hd : Bd < w4.heap.size) : (twLt E ty tE w4 Bd lo hi cs vW vB vy vz xs ys y z).C [v3] w3 := by
  obtain ⟨h1, h2, h3, h4, h5, h6⟩ := hC
  have hS : Side E E w4.heap.size tE tE (fun g => w4.heap.size ≤ g) w' vW vB xs ys := h6
  refine ⟨h1.andThen hgr (fun j e => .inl (hS.fst.lt j e).1), h2.grown hgr (fun e => by have := (hS.fst.lt _ e.symm).1; omega), Nat.le_trans h3 hgr.size, E.keep h4 hgr (fun g hg e => by have := hW g e.symm; omega), E.keep h5 hgr (fun g hg e => by have := hW g e.symm; omega), hS.one ha hgr hm, fun g e => ?_⟩
  rcases hm with h | ⟨n, hn, h⟩
  · exact .inl (hW g (h ▸ e))
  · rw [h] at e
    injection e with e
    exact .inr (by omega)
theorem twLt_two (hC : (twLt E ty tE w4 Bd lo hi cs vW vB vy vz xs ys y z).C [u] w') (ha : Acc E w4.heap.size tE (fun g => w4.heap.size ≤ g ∧ some g ≠ u.ownBlock) w3 v3 (ys ++ [z])) (hgr : w'.grownBy w3 vB.ownBlock) (hm : Moved w' vB v3) (hB : ∀ g, vB.ownBlock = some g → g < lo) (hd : Bd < w4.heap.size) : (twLt E ty tE w4 Bd lo hi cs vW vB vy vz xs ys y z).C [u, v3] w3 := by
  obtain ⟨h1, h2, h3, h4, h5, h6⟩ := hC
  have hS : Side E E w4.heap.size tE tE (fun g => w4.heap.size ≤ g) w' u vB (xs ++ [y]) ys := h6.1
  exact ⟨h1.andThen hgr (fun j e => .inl (hS.snd.lt j e).1), h2.grown hgr (fun e => by have := (hS.snd.lt _ e.symm).1; omega), Nat.le_trans h3 hgr.size, E.keep h4 hgr (fun g hg e => by have := hB g e.symm; omega), E.keep h5 hgr (fun g hg e => by have := hB g e.symm; omega), hS.two ha hgr hm⟩
theorem twLt_rep1 (hC : (twLt E ty tE w4 Bd lo hi cs vW vB vy vz xs ys y z).C [] w') (hW : ∀ g, vW.ownBlock = some g → g < lo) (hB : ∀ g, vB.ownBlock = some g → g < lo) (hl : w4.heap.size ≤ lo) : E.rep (fun g => (w4.heap.size ≤ g ∧ some g ≠ vB.ownBlock) ∧ some g ≠ vW.ownBlock) w' [vy] y :=
  E.more hC.2.2.2.1 fun g _ hg => ⟨⟨by omega, fun e => by have := hB g e.symm; omega⟩, fun e => by have := hW g e.symm; omega⟩
theorem twLt_rep2 (hC : (twLt E ty tE w4 Bd lo hi cs vW vB vy vz xs ys y z).C [u] w') (hB : ∀ g, vB.ownBlock = some g → g < lo) (hl : w4.heap.size ≤ lo) : E.rep (fun g => (w4.heap.size ≤ g ∧ some g ≠ u.ownBlock) ∧ some g ≠ vB.ownBlock) w' [vz] z :=
  E.more hC.2.2.2.2.1 fun g _ hg => ⟨⟨by omega, fun e => by have := hC.2.2.2.2.2.2 g e.symm; omega⟩, fun e => by have := hB g e.symm; omega⟩
theorem twLt_end {t' : TypeId} {a : Value} {u2 : Value} (hC : (twLt E t' tE w4 Bd lo hi #[a, vW, vB] vW vB vy vz xs ys y z).C [u, u2] w') (hd : Bd < w4.heap.size) : Bk ((w'.setCell ⟨Bd, 1, none⟩ u).setCell ⟨Bd, 2, none⟩ u2) Bd t' #[a, u, u2] ∧ Side E E w4.heap.size tE tE (fun g => w4.heap.size ≤ g) ((w'.setCell ⟨Bd, 1, none⟩ u).setCell ⟨Bd, 2, none⟩ u2) u u2 (xs ++ [y]) (ys ++ [z]) ∧ w4.grownBy ((w'.setCell ⟨Bd, 1, none⟩ u).setCell ⟨Bd, 2, none⟩ u2) (some Bd) := by
  obtain ⟨h1, h2, _, _, _, h6⟩ := hC
  have hS : Side E E w4.heap.size tE tE (fun g => w4.heap.size ≤ g) w' u u2 (xs ++ [y]) (ys ++ [z]) := h6
  exact ⟨(h2.set 1 u).set 2 u2, (hS.keep (grownSet w' Bd 1 u) (fun g hg e => by injection e with e; omega)).keep (grownSet _ Bd 2 u2) (fun g hg e => by injection e with e; omega), (h1.andThen (grownSet w' Bd 1 u) (fun j e => .inr e)).andThen (grownSet _ Bd 2 u2) (fun j e => .inr e)⟩
end
/-- A slice of one list of pairs, made since N. -/
def blkP (N : Nat) (yr : List (Int × Int)) : Pv := ⟨fun v W => ∃ A n c b, v = .slice (some ⟨b, 0, none⟩) 1 1 ∧ Bk W b 51 #[.slice A n c] ∧ Sl encP (fun g => N ≤ g) W (.slice A n c) yr, fun ⟨A, n, c, b, e, h1, h2⟩ hg => ⟨A, n, c, b, e, h1.grown hg (by simp), h2.kept hg⟩⟩
/-- A list of pairs, made since N. -/
def slP (N : Nat) (yr : List (Int × Int)) : Pv := ⟨fun v W => Sl encP (fun g => N ≤ g) W v yr, fun h hg => h.kept hg⟩
def slU (yr : List Int) : Pv := ⟨fun v W => Sl encU TT W v yr, fun h hg => h.kept hg⟩
theorem results_deal {fn : Func} {W : World} {B8 : Nat} {a b c : Value} (h : fn.results = #[.cell 8 48, .tmp 9]) (tmps : Array Value) (h8 : tmps.getD 8 undef = .pointer (some ⟨B8, 0, none⟩)) (h9 : tmps.getD 9 undef = .int .i64 0) (hb : Bk W B8 48 #[a, b, c]) : (results fn tmps).run Tryz.prog W = .ok (.tuple #[.agg #[a, b, c], .int .i64 0]) W := by
  have r1 := run_loadVar_row (P := Tryz.prog) W B8 48 48 #[a, b, c] (0, 0) _ hb Tryz.underlying48 rfl (by kernel_rfl)
  have h8' : tmps[8]?.getD undef = .pointer (some ⟨B8, 0, none⟩) := by simpa using h8
  have h9' : tmps[9]?.getD undef = .int .i64 0 := by simpa using h9
  simp [results, h, h8', h9', asAddr, r1]
end Go.Proofs.YtiimippmihkgcaaGreatDoor

namespace Go.Proofs.YtiimippmihkgcaaGreatDoor
open Go.RowKit

def triedL : List Int := [2, 3, 5, 7, 11, 13, 17, 19, 23, 29, 31, 37]
/-- The two tables, where their variables lie. -/
def TabsAt (w : World) : Prop := (∀ j, j < Lib.deBruijn64tab.length → w.cell? ⟨1, j, none⟩ = some (.int .u8 (Lib.deBruijn64tab.getD j 0))) ∧ (∀ j, j < 12 → w.cell? ⟨0, j, none⟩ = some (.int .u64 (triedL.getD j 0)))
theorem TabsAt.drewN {w : World} (h : TabsAt w) (n : Nat) : TabsAt (w.drewN n) := h

set_option maxHeartbeats 400000 in
theorem tz64_core (x k idx : Nat) (w : World) (hx0 : ((x : Int) == 0) = false)
    (key : IntKind.u64.wrap (bits BinOp.and IntKind.u64 (x : Int) (IntKind.u64.wrap (-(x : Int))) * 285870213051353865) / 288230376151711744 = (idx : Int))
    (hi : idx < 64) (hk : k < 64) (hcell : w.cell? ⟨1, idx, none⟩ = some (.int .u8 k)) :
    Calls Tryz.prog 86 #[.int .u64 x] w fun e w' => e = .returned (.int .i64 k) ∧ w' = w := by
  go_enter Tryz.func86, Tryz.ntmps86
  go_wp2_with (simp only [key])
  go_ret
  exact ⟨rfl, rfl⟩

theorem tz64_key (x a : Nat) (hx : x < 18446744073709551616) (hx0 : x ≠ 0) (hlow : x &&& (18446744073709551616 - x) = a) :
    IntKind.u64.wrap (bits BinOp.and IntKind.u64 (x : Int) (IntKind.u64.wrap (-(x : Int))) * 285870213051353865) / 288230376151711744 = ((a * 285870213051353865 % 18446744073709551616 / 288230376151711744 : Nat) : Int) := by
  have e1 : IntKind.u64.wrap (-(x : Int)) = ((18446744073709551616 - x : Nat) : Int) := by rw [IntKind.wrap_u64]; omega
  rw [e1, bits_and_u64_nat x _ hx (by omega), hlow, IntKind.wrap_u64]
  omega

theorem tz64_any (x : Int) (w : World) (h0 : 0 < x) (h1 : x < 18446744073709551616) (hT : TabsAt w) :
    Calls Tryz.prog 86 #[.int .u64 x] w fun e w' => e = .returned (.int .i64 (Lib.ctz 64 x.toNat)) ∧ w' = w := by
  obtain ⟨n, rfl⟩ := Int.eq_ofNat_of_zero_le (show 0 ≤ x by omega)
  rw [Int.toNat_natCast]
  have hx0 : n ≠ 0 := by omega
  have hx : n < 18446744073709551616 := by omega
  obtain ⟨hlow, hk⟩ := Lib.lowest_bit 64 n hx0 hx
  obtain ⟨hi, htab⟩ := Lib.deBruijn64_at _ hk
  have hcell := hT.1 _ hi
  rw [htab] at hcell
  exact tz64_core n _ _ w (by simp; omega) (tz64_key n _ hx hx0 hlow) hi hk hcell

/-- Squares until n - 1 is met. -/
def witB (n : Int) : Nat → Int → Bool
  | 0, _ => false
  | k + 1, x => x == n - 1 || witB n k (mulI x x n)
def passB (n a : Int) (t : Nat) : Bool := powI a ((n - 1) / 2 ^ t) n == 1 || witB n t (powI a ((n - 1) / 2 ^ t) n)
def goB (n : Int) (t : Nat) : List Int → Bool
  | [] => true
  | a :: l => if n % a = 0 then decide (n = a) else if passB n a t then goB n t l else false
def primeB (n : Int) : Bool := if n < 2 ∨ 2305843009213693952 < n then false else goB n (Lib.ctz 64 (n - 1).toNat) triedL

set_option maxHeartbeats 400000 in
theorem prime_out (n : Int) (w : World) (h : n < 2 ∨ 2305843009213693952 < n) :
    Calls Tryz.prog 34 #[.int .u64 n] w fun e w' => e = .returned (.bool false) ∧ ∃ k, w' = w.drewN k := by
  by_cases h2 : n < 2
  · clear h
    have h2' : decide (n < 2) = true := by simpa using h2
    go_enter Tryz.func34, Tryz.ntmps34
    go_wp2
    go_step3
    go_wp2
    (try rw [Exit.noGoto_ret])
    go_ret
    exact ⟨rfl, 0, rfl⟩
  · have h2' : decide (n < 2) = false := by simpa using h2
    have h3 : 2305843009213693952 < n := h.resolve_left h2
    have h3' : decide (2305843009213693952 < n) = true := by simpa using h3
    clear h
    go_enter Tryz.func34, Tryz.ntmps34
    go_wp2
    go_step3
    go_wp2
    (try rw [Exit.noGoto_ret])
    go_ret
    exact ⟨rfl, 0, rfl⟩

theorem powI_U64 (a e m : Int) : U64 (powI a e m) := by
  cases hm : mayB m with
  | false => simp [powI, hm, U64]
  | true =>
    simp only [powI, hm, if_true]
    simp [mayB] at hm
    have := emod_bd (a ^ e.toNat) m hm.1
    unfold U64
    omega
/-- The k-th of the numbers: what it is, and how the walk reads it. -/
theorem tried_at : ∀ k : Nat, k < 12 → ∃ p : Int, triedL.drop k = p :: triedL.drop (k + 1) ∧ 2 ≤ p ∧ p ≤ 37 ∧
    ∀ w, (Instr.index 127 (.agg #[.int .u64 2, .int .u64 3, .int .u64 5, .int .u64 7, .int .u64 11, .int .u64 13, .int .u64 17, .int .u64 19, .int .u64 23, .int .u64 29, .int .u64 31, .int .u64 37]) (.int .i64 k)).run Tryz.prog w = .ok (.int .u64 p) w := by
  intro k hk
  match k, hk with
  | 0, _ => exact ⟨2, rfl, by decide, by decide, fun _ => by kernel_rfl⟩
  | 1, _ => exact ⟨3, rfl, by decide, by decide, fun _ => by kernel_rfl⟩
  | 2, _ => exact ⟨5, rfl, by decide, by decide, fun _ => by kernel_rfl⟩
  | 3, _ => exact ⟨7, rfl, by decide, by decide, fun _ => by kernel_rfl⟩
  | 4, _ => exact ⟨11, rfl, by decide, by decide, fun _ => by kernel_rfl⟩
  | 5, _ => exact ⟨13, rfl, by decide, by decide, fun _ => by kernel_rfl⟩
  | 6, _ => exact ⟨17, rfl, by decide, by decide, fun _ => by kernel_rfl⟩
  | 7, _ => exact ⟨19, rfl, by decide, by decide, fun _ => by kernel_rfl⟩
  | 8, _ => exact ⟨23, rfl, by decide, by decide, fun _ => by kernel_rfl⟩
  | 9, _ => exact ⟨29, rfl, by decide, by decide, fun _ => by kernel_rfl⟩
  | 10, _ => exact ⟨31, rfl, by decide, by decide, fun _ => by kernel_rfl⟩
  | 11, _ => exact ⟨37, rfl, by decide, by decide, fun _ => by kernel_rfl⟩

set_option maxHeartbeats 400000 in
theorem prime_in (n : Int) (w : World) (h2 : 2 ≤ n) (h3 : n ≤ 2305843009213693952) (hT : TabsAt w) :
    Calls Tryz.prog 34 #[.int .u64 n] w fun e w' => e = .returned (.bool (goB n (Lib.ctz 64 (n - 1).toNat) triedL)) ∧ ∃ k, w' = w.drewN k := by
  have h2' : decide (n < 2) = false := by simp; omega
  have h3' : decide (2305843009213693952 < n) = false := by simp; omega
  have HT := Lib.hid hT
  obtain ⟨t, ht⟩ : ∃ t, t = Lib.ctz 64 (n - 1).toNat := ⟨_, rfl⟩
  have ht64 : t < 64 := by rw [ht]; exact (Lib.lowest_bit 64 (n - 1).toNat (by omega) (by omega)).2
  have HZ := Lib.hid (tz64_any (n - 1) w (by omega) (by omega) hT)
  rw [← ht] at HZ ⊢
  clear ht hT
  go_enter Tryz.func34, Tryz.ntmps34
  go_wp2
  go_step3
  go_wp2_with fail
  refine HZ.out.mono ?_
  rintro e w' ⟨rfl, hw'⟩
  rw [hw']
  clear hw'
  go_wp2_with fail
  go_step3
  have k0 : w.cell? ⟨0, 0, none⟩ = some (.int .u64 2) := HT.out.2 0 (by decide)
  have k1 : w.cell? ⟨0, 1, none⟩ = some (.int .u64 3) := HT.out.2 1 (by decide)
  have k2 : w.cell? ⟨0, 2, none⟩ = some (.int .u64 5) := HT.out.2 2 (by decide)
  have k3 : w.cell? ⟨0, 3, none⟩ = some (.int .u64 7) := HT.out.2 3 (by decide)
  have k4 : w.cell? ⟨0, 4, none⟩ = some (.int .u64 11) := HT.out.2 4 (by decide)
  have k5 : w.cell? ⟨0, 5, none⟩ = some (.int .u64 13) := HT.out.2 5 (by decide)
  have k6 : w.cell? ⟨0, 6, none⟩ = some (.int .u64 17) := HT.out.2 6 (by decide)
  have k7 : w.cell? ⟨0, 7, none⟩ = some (.int .u64 19) := HT.out.2 7 (by decide)
  have k8 : w.cell? ⟨0, 8, none⟩ = some (.int .u64 23) := HT.out.2 8 (by decide)
  have k9 : w.cell? ⟨0, 9, none⟩ = some (.int .u64 29) := HT.out.2 9 (by decide)
  have k10 : w.cell? ⟨0, 10, none⟩ = some (.int .u64 31) := HT.out.2 10 (by decide)
  have k11 : w.cell? ⟨0, 11, none⟩ = some (.int .u64 37) := HT.out.2 11 (by decide)
  go_wp2_with fail
  clear k0 k1 k2 k3 k4 k5 k6 k7 k8 k9 k10 k11
  go_loopg [17] 12 (fun g s17 wx => ∃ k : Nat, k + g = 12 ∧ s17 = .int .i64 k ∧ Hid (goB n t (triedL.drop k) = goB n t triedL) ∧ ∃ q, wx = w.drewN q)
  case atStart => exact ⟨0, rfl, rfl, Lib.hid rfl, 0, rfl⟩
  case round =>
    obtain ⟨k, hkg, rfl, HG, q, rfl⟩ := hrel
    cases gk with
    | zero =>
      obtain rfl : k = 12 := by omega
      have HE : Hid (true = goB n t triedL) := Lib.hid HG.out
      go_wp2
      (try rw [Exit.noGoto_ret])
      go_ret
      exact ⟨congrArg Ending.returned (congrArg Value.bool HE.out), _, rfl⟩
    | succ g =>
      have hk : k < 12 := by omega
      obtain ⟨p, hd, hp2, hp37, hidx⟩ := tried_at k hk
      have HG2 : Hid (goB n t (p :: triedL.drop (k + 1)) = goB n t triedL) := Lib.hid (by rw [← hd]; exact HG.out)
      clear HG hd
      by_cases hdv : n % p = 0
      · have HE : Hid ((n == p) = goB n t triedL) := Lib.hid (by rw [← HG2.out]; simp only [goB, hdv, if_true]; rfl)
        go_wp2
        (try rw [Exit.noGoto_ret])
        go_ret
        exact ⟨congrArg Ending.returned (congrArg Value.bool HE.out), _, rfl⟩
      · have hdv' : (n % p == 0) = false := by simpa using hdv
        have e0 : 0 ≤ (n - 1) / 2 ^ t := Int.ediv_nonneg (by omega) (Int.le_of_lt (Int.pow_pos (by decide)))
        have e1 : (n - 1) / 2 ^ t ≤ n - 1 := Int.ediv_le_self _ (by omega)
        have HP := Lib.hid (fun w => pow_any p ((n - 1) / 2 ^ t) n w ⟨by omega, by omega⟩ ⟨e0, by omega⟩)
        have hG3 := HG2.out
        simp only [goB, hdv, if_false] at hG3
        have HX := powI_U64 p ((n - 1) / 2 ^ t) n
        unfold passB at hG3
        generalize powI p ((n - 1) / 2 ^ t) n = x0 at HP hG3 HX
        have HU := Lib.hid HX
        clear HX hdv HG2
        by_cases hx1 : x0 = 1
        · have HN : Hid (goB n t (triedL.drop (k + 1)) = goB n t triedL) := Lib.hid (by rw [← hG3]; simp [hx1])
          clear hG3
          have hx1' : (x0 == 1) = true := by simpa using hx1
          clear hx1
          go_wp2_with fail
          refine (HP.out _).mono ?_
          rintro e w' ⟨rfl, n1, rfl⟩
          go_wp2
          go_roundg g
          case measure => omega
          case rel => exact ⟨k + 1, by omega, by go_num, HN, _, rfl⟩
        · have hx1' : (x0 == 1) = false := by simpa using hx1
          have HN : Hid ((if witB n t x0 then goB n t (triedL.drop (k + 1)) else false) = goB n t triedL) := Lib.hid (by rw [← hG3]; simp [hx1'])
          clear hG3 hx1
          go_wp2_with fail
          refine (HP.out _).mono ?_
          rintro e w' ⟨rfl, n1, rfl⟩
          go_wp2_with fail
          clear hidx
          go_loopg [6, 37] t (fun h s6 s37 wx => ∃ (x : Int) (j : Nat), j + h = t ∧ s6 = .int .u64 x ∧ Hid (U64 x) ∧ s37 = .int .i64 j ∧ Hid (witB n h x = witB n t x0) ∧ ∃ q, wx = w.drewN q)
          case atStart => exact ⟨x0, 0, by omega, rfl, HU, rfl, Lib.hid rfl, _, rfl⟩
          case round =>
            obtain ⟨x, j, hj, rfl, hx, rfl, hW, q2, rfl⟩ := hrel
            cases gk with
            | zero =>
              obtain rfl : j = t := by omega
              have HE : Hid (false = goB n j triedL) := Lib.hid (by
                have := HN.out
                rw [← hW.out] at this
                simpa [witB] using this)
              go_wp2
              (try rw [Exit.noGoto_ret])
              go_ret
              exact ⟨congrArg Ending.returned (congrArg Value.bool HE.out), _, rfl⟩
            | succ h =>
              have hjt : (j : Int) < (t : Int) := by omega
              by_cases hxn : x = n - 1
              · have HE : Hid (goB n t (triedL.drop (k + 1)) = goB n t triedL) := Lib.hid (by
                  have := HN.out
                  rw [← hW.out] at this
                  simpa [witB, hxn] using this)
                have hxn' : (x == n - 1) = true := by simpa using hxn
                clear hxn hx1'
                go_wp2
                go_roundg g
                case measure => omega
                case rel => exact ⟨k + 1, by omega, by go_num, HE, _, rfl⟩
              · have hxn' : (x == n - 1) = false := by simpa using hxn
                have HW2 : Hid (witB n h (mulI x x n) = witB n t x0) := Lib.hid (by
                  have := hW.out
                  simpa [witB, hxn'] using this)
                have HX2 := Lib.hid (mulI_U64 x x n)
                clear hxn
                go_wp2_with fail
                refine (mul_any x x n _ hx.out hx.out).mono ?_
                rintro e w' ⟨rfl, n2, rfl⟩
                go_wp2
                go_roundg h
                case measure => omega
                case rel => exact ⟨mulI x x n, j + 1, by omega, rfl, HX2, by go_num, HW2, _, rfl⟩

theorem prime_any (n : Int) (w : World) (hT : TabsAt w) :
    Calls Tryz.prog 34 #[.int .u64 n] w fun e w' => e = .returned (.bool (primeB n)) ∧ ∃ k, w' = w.drewN k := by
  by_cases h : n < 2 ∨ 2305843009213693952 < n
  · rw [show primeB n = false by simp only [primeB, if_pos h]]
    exact prime_out n w h
  · rw [show primeB n = goB n (Lib.ctz 64 (n - 1).toNat) triedL by simp only [primeB, if_neg h]]
    exact prime_in n w (by omega) (by omega) hT
end Go.Proofs.YtiimippmihkgcaaGreatDoor

namespace Go.Proofs.YtiimippmihkgcaaGreatDoor
open Go.ChangeShapes Go.WideShapes Go.RowKit

theorem u64_wf {a : Int} (h : (Lit.int .u64 a).wf = true) : U64 a := by
  have := bounds_u64 h
  unfold U64
  omega
theorem i64_wf {a : Int} (h : (Lit.int .i64 a).wf = true) : I64 a := by
  have := bounds_i64 h
  unfold I64
  omega
/-- Whatever is read at this type reads so. -/
def Reads {α : Type} (E : Enc α) (t : TypeId) : Prop :=
  ∀ {H : Type} {enc : TypeId × Value → H} {w : World} {base : Nat} {spare : Nat → Bool} {held : Bool} {fuel : Nat} {cs : List Value} {x : DataW H × List MemPlace},
    DataW.trod enc Tryz.prog w base spare held fuel t cs = some x → ∃ a, E.rep (fun _ => True) w cs a
theorem reads_u64 {t : TypeId} (ht : Tryz.prog.underlying t = some (.int .u64)) : Reads encU t := by
  intro H enc w base spare held fuel cs x h
  obtain ⟨n, rfl, _, hw⟩ := DataW.trod_int ht h
  exact ⟨n, rfl, u64_wf hw⟩
theorem reads_i64 {t : TypeId} (ht : Tryz.prog.underlying t = some (.int .i64)) : Reads encI t := by
  intro H enc w base spare held fuel cs x h
  obtain ⟨n, rfl, _, hw⟩ := DataW.trod_int ht h
  exact ⟨n, rfl, i64_wf hw⟩
theorem reads_pair {t u : TypeId} {f0 f1 : Field} (ht : Tryz.prog.underlying t = some (.struct #[f0, f1])) (h0 : f0.type = u ∧ f0.offset = 0) (h1 : f1.type = u ∧ f1.offset = 1)
    (hu : Tryz.prog.underlying u = some (.int .u64)) (hc : Tryz.prog.cellsOf t = 2) (hcu : Tryz.prog.cellsOf u = 1) : Reads encP t := by
  intro H enc w base spare held fuel cs x h
  obtain ⟨y0, y1, n, _, hl, e0, e1⟩ := trod_struct2 ht h
  rw [h0.1, h0.2, hcu] at e0
  rw [h1.1, h1.2, hcu] at e1
  obtain ⟨a, ea, _, wa⟩ := DataW.trod_int hu e0
  obtain ⟨b, eb, _, wb⟩ := DataW.trod_int hu e1
  rw [hc] at hl
  match cs, hl with
  | [c0, c1], _ =>
    simp at ea eb
    subst ea eb
    exact ⟨(a, b), rfl, u64_wf wa, u64_wf wb⟩
theorem reads_sl {α : Type} {E : Enc α} {t e : TypeId} (ht : Tryz.prog.underlying t = some (.slice e)) (hE : Reads E e) (hc : Tryz.prog.cellsOf e = E.size) : Reads (encS E) t := by
  intro H enc w base spare held fuel cs x h
  rcases Go.Deep.open_slice ht h with ⟨rfl, _⟩ | ⟨a, len, cap, m, n, D, Pl, rfl, _, hl, hm, hmm, _, hi⟩
  · exact ⟨[], _, rfl, Sl.nil _ _ _⟩
  · have hlm : len ≤ m := by rw [hmm]; split <;> omega
    have key : ∀ i, i < len → ∃ y, ∃ cs', E.rep (fun _ => True) w cs' y ∧ ∀ j, j < E.size → w.cell? (a.add (i * E.size + j)) = cs'[j]? := by
      intro i hil
      obtain ⟨cs', hcell, htr⟩ := hi i (by omega)
      obtain ⟨y, hy⟩ := hE htr
      obtain ⟨_, hlen, hat⟩ := World.cells?_some hcell
      rw [hc] at hat
      refine ⟨y, cs', hy, fun j hj => ?_⟩
      rw [← hat j hj, Go.Deep.add_add]
    have hcz : ∃ f : Fin len → α, ∀ i : Fin len, ∃ cs', E.rep (fun _ => True) w cs' (f i) ∧ ∀ j, j < E.size → w.cell? (a.add (i.1 * E.size + j)) = cs'[j]? :=
      ⟨fun i => Classical.choose (key i.1 i.2), fun i => Classical.choose_spec (key i.1 i.2)⟩
    obtain ⟨f, hf⟩ := hcz
    have hlen : (List.ofFn f).length = len := List.length_ofFn
    refine ⟨List.ofFn f, _, rfl, some a, cap, by rw [hlen], by omega, by unfold maxLen at hm; omega, fun hn => ?_⟩
    have hpos : 0 < len := by rw [← hlen]; exact List.length_pos_iff.2 hn
    obtain ⟨cs0, hr0, hc0⟩ := hf ⟨0, hpos⟩
    have h00 := hc0 0 E.pos
    have hl0 := E.len hr0
    rw [List.getElem?_eq_getElem (by rw [hl0]; exact E.pos)] at h00
    obtain ⟨g, o, sp⟩ := a
    have hsp : sp = none := by simpa [Addr.add] using World.cell?_spot h00
    subst hsp
    have h00' : w.cell? ⟨g, o, none⟩ = some (cs0[0]'(by rw [hl0]; exact E.pos)) := by simpa [Addr.add] using h00
    have hgl : g < w.heap.size := by
      rcases Nat.lt_or_ge g w.heap.size with hlt | hge
      · exact hlt
      · simp [World.cell?, Array.getElem?_eq_none hge] at h00'
    refine ⟨g, o, rfl, hgl, trivial, fun i hi' => ?_⟩
    obtain ⟨cs', hr', hc'⟩ := hf ⟨i, by omega⟩
    refine ⟨cs', by simpa using hr', fun j u hu => ?_⟩
    have hj : j < E.size := by
      rw [← E.len hr']
      exact (List.getElem?_eq_some_iff.1 hu).1
    rw [← hu, ← hc' j hj]
    have : (⟨g, o, none⟩ : Addr).add (i * E.size + j) = ⟨g, o + i * E.size + j, none⟩ := by
      unfold Addr.add
      split
      · rename_i h0
        have : i * E.size + j = 0 := by simpa using h0
        rw [show o + i * E.size + j = o by omega]
      · rw [Nat.add_assoc]
    rw [this]
/-- A slice that came in as an argument. -/
theorem open_sl {α : Type} {E : Enc α} {t : TypeId} (hR : Reads (encS E) t) {H : Type} {enc : TypeId × Value → H} {w : World} {base : Nat} {spare : Nat → Bool} {held : Bool} {a : Option Addr} {len cap : Nat} {d : DataW H} {p : List MemPlace}
    (h : DataW.Trod enc Tryz.prog w base spare held t (.slice a len cap) d p) : ∃ xs, Sl E (fun _ => True) w (.slice a len cap) xs := by
  obtain ⟨fuel, hf⟩ := h
  obtain ⟨xs, v, e, hs⟩ := hR hf
  simp [Value.cells] at e
  exact ⟨xs, by rw [e]; exact hs⟩
end Go.Proofs.YtiimippmihkgcaaGreatDoor

namespace Go.Proofs.YtiimippmihkgcaaGreatDoor
open Go.RowKit

def withinB (x lo hi : Int) : Bool := decide (lo ≤ x) && decide (x ≤ hi)
theorem withinB_iff (x lo hi : Int) : withinB x lo hi = true ↔ lo ≤ x ∧ x ≤ hi := by simp [withinB]
set_option maxHeartbeats 400000 in
theorem within_eq (x lo hi : Int) (b : Bool) (h : withinB x lo hi = b) (w : World) :
    Calls Tryz.prog 26 #[.int .i64 x, .int .i64 lo, .int .i64 hi] w fun e w' => e = .returned (.bool b) ∧ w' = w := by
  subst h
  by_cases h1 : lo ≤ x
  · by_cases h2 : x ≤ hi
    · have HE : Hid (withinB x lo hi = true) := Lib.hid (by simp [withinB, h1, h2])
      go_enter Tryz.func26, Tryz.ntmps26
      go_wp2
      go_ret
      exact ⟨ret_bool HE.out.symm, rfl⟩
    · have HE : Hid (withinB x lo hi = false) := Lib.hid (by simp [withinB, h2])
      have h2' : decide (x ≤ hi) = false := by simpa using h2
      clear h2
      go_enter Tryz.func26, Tryz.ntmps26
      go_wp2
      go_ret
      exact ⟨ret_bool HE.out.symm, rfl⟩
  · have HE : Hid (withinB x lo hi = false) := Lib.hid (by simp [withinB, h1])
    have h1' : decide (lo ≤ x) = false := by simpa using h1
    clear h1
    go_enter Tryz.func26, Tryz.ntmps26
    go_wp2
    go_ret
    exact ⟨ret_bool HE.out.symm, rfl⟩

def m1 (p : Par) : Bool := decide (2 ≤ p.P) && decide (p.P ≤ 2305843009213693952) && decide (2 ≤ p.Q) && ((p.P - 1) % p.Q == 0)
def m2 (p : Par) : Bool := withinB p.T 1 2
def m3 (p : Par) : Bool := withinB p.N (3 * p.T + 1) 7 && decide (p.N < p.Q)
def m4 (p : Par) : Bool := withinB p.Nodes p.N 8
def m5 (p : Par) : Bool := withinB p.K 1 2 && withinB p.D 1 4
def m6 (p : Par) : Bool := withinB p.R 1 p.D
def m7 (p : Par) : Bool := withinB p.M 1 1048576 && withinB p.X 1 1048576
def m8 (p : Par) : Bool := decide (2 * (p.D * p.M * p.X + p.M) < p.Q)
def m9 (p : Par) : Bool := primeB p.Q && primeB p.P
def m10 (p : Par) : Bool := decide (p.G ≠ 1) && isB p p.G && decide (p.H ≠ 1) && isB p p.H
def mayP (p : Par) : Bool := m1 p && m2 p && m3 p && m4 p && m5 p && m6 p && m7 p && m8 p && m9 p && m10 p

set_option maxHeartbeats 400000 in
theorem may_1 (p : Par) (g : Nat) (w : World) (hp : p.ok) (hb : Bk w g 24 p.cells) :
    Calls Tryz.prog 24 #[.pointer (some ⟨g, 0, none⟩)] w fun e w' => e = .returned (.bool (m1 p)) ∧ w.grownBy w' none := by
  have hc := hb.prule
  obtain ⟨p0, p1⟩ := hp.P
  obtain ⟨q0, q1⟩ := hp.Q
  clear hb hp
  by_cases h1 : 2 ≤ p.P
  · by_cases h2 : p.P ≤ 2305843009213693952
    · by_cases h3 : 2 ≤ p.Q
      · have HE : Hid (m1 p = ((p.P - 1) % p.Q == 0)) := Lib.hid (by simp [m1, h1, h2, h3])
        go_enter Tryz.func24, Tryz.ntmps24
        go_wp2
        go_ret
        exact ⟨ret_bool HE.out.symm, World.grownBy.refl w none⟩
      · have HE : Hid (m1 p = false) := Lib.hid (by simp [m1, h3])
        have h3' : decide (2 ≤ p.Q) = false := by simpa using h3
        clear h3
        go_enter Tryz.func24, Tryz.ntmps24
        go_wp2
        go_ret
        exact ⟨ret_bool HE.out.symm, World.grownBy.refl w none⟩
    · have HE : Hid (m1 p = false) := Lib.hid (by simp [m1, h2])
      have h2' : decide (p.P ≤ 2305843009213693952) = false := by simpa using h2
      clear h2
      go_enter Tryz.func24, Tryz.ntmps24
      go_wp2
      go_ret
      exact ⟨ret_bool HE.out.symm, World.grownBy.refl w none⟩
  · have HE : Hid (m1 p = false) := Lib.hid (by simp [m1, h1])
    have h1' : decide (2 ≤ p.P) = false := by simpa using h1
    clear h1
    go_enter Tryz.func24, Tryz.ntmps24
    go_wp2
    go_ret
    exact ⟨ret_bool HE.out.symm, World.grownBy.refl w none⟩
set_option maxHeartbeats 400000 in
theorem may_2 (p : Par) (g : Nat) (w : World) (hb : Bk w g 24 p.cells) :
    Calls Tryz.prog 25 #[.pointer (some ⟨g, 0, none⟩)] w fun e w' => e = .returned (.bool (m2 p)) ∧ w.grownBy w' none := by
  have hc := hb.prule
  have HW := Lib.hid (fun w => within_eq p.T 1 2 _ rfl w)
  clear hb
  go_enter Tryz.func25, Tryz.ntmps25
  go_wp2_with fail
  refine (HW.out _).mono ?_
  rintro e w' ⟨rfl, rfl⟩
  go_wp2
  go_ret
  exact ⟨rfl, World.grownBy.refl _ none⟩
set_option maxHeartbeats 400000 in
theorem may_3 (p : Par) (g : Nat) (w : World) (hp : p.ok) (hb : Bk w g 24 p.cells) (h2 : m2 p = true) :
    Calls Tryz.prog 27 #[.pointer (some ⟨g, 0, none⟩)] w fun e w' => e = .returned (.bool (m3 p)) ∧ w.grownBy w' none := by
  have hc := hb.prule
  obtain ⟨t0, t1⟩ := (withinB_iff _ _ _).1 h2
  obtain ⟨q0, q1⟩ := hp.Q
  clear hb hp h2
  cases hN : withinB p.N (3 * p.T + 1) 7 with
  | true =>
    obtain ⟨n0, n1⟩ := (withinB_iff _ _ _).1 hN
    have HW := Lib.hid (fun w => within_eq p.N (3 * p.T + 1) 7 _ hN w)
    have HE : Hid (m3 p = decide (p.N < p.Q)) := Lib.hid (by simp [m3, hN])
    clear hN
    go_enter Tryz.func27, Tryz.ntmps27
    go_wp2_with fail
    refine (HW.out _).mono ?_
    rintro e w' ⟨rfl, rfl⟩
    go_wp2
    go_ret
    exact ⟨ret_bool HE.out.symm, World.grownBy.refl _ none⟩
  | false =>
    have HW := Lib.hid (fun w => within_eq p.N (3 * p.T + 1) 7 _ hN w)
    have HE : Hid (m3 p = false) := Lib.hid (by simp [m3, hN])
    clear hN
    go_enter Tryz.func27, Tryz.ntmps27
    go_wp2_with fail
    refine (HW.out _).mono ?_
    rintro e w' ⟨rfl, rfl⟩
    go_wp2
    go_ret
    exact ⟨ret_bool HE.out.symm, World.grownBy.refl _ none⟩
set_option maxHeartbeats 400000 in
theorem may_4 (p : Par) (g : Nat) (w : World) (hb : Bk w g 24 p.cells) :
    Calls Tryz.prog 28 #[.pointer (some ⟨g, 0, none⟩)] w fun e w' => e = .returned (.bool (m4 p)) ∧ w.grownBy w' none := by
  have hc := hb.prule
  have HW := Lib.hid (fun w => within_eq p.Nodes p.N 8 _ rfl w)
  clear hb
  go_enter Tryz.func28, Tryz.ntmps28
  go_wp2_with fail
  refine (HW.out _).mono ?_
  rintro e w' ⟨rfl, rfl⟩
  go_wp2
  go_ret
  exact ⟨rfl, World.grownBy.refl _ none⟩
set_option maxHeartbeats 400000 in
theorem may_5 (p : Par) (g : Nat) (w : World) (hb : Bk w g 24 p.cells) :
    Calls Tryz.prog 29 #[.pointer (some ⟨g, 0, none⟩)] w fun e w' => e = .returned (.bool (m5 p)) ∧ w.grownBy w' none := by
  have hc := hb.prule
  clear hb
  cases hN : withinB p.K 1 2 with
  | true =>
    have HW := Lib.hid (fun w => within_eq p.K 1 2 _ hN w)
    have HV := Lib.hid (fun w => within_eq p.D 1 4 _ rfl w)
    have HE : Hid (m5 p = withinB p.D 1 4) := Lib.hid (by simp [m5, hN])
    clear hN
    go_enter Tryz.func29, Tryz.ntmps29
    go_wp2_with fail
    refine (HW.out _).mono ?_
    rintro e w' ⟨rfl, rfl⟩
    go_wp2_with fail
    refine (HV.out _).mono ?_
    rintro e w' ⟨rfl, rfl⟩
    go_wp2
    go_ret
    exact ⟨ret_bool HE.out.symm, World.grownBy.refl _ none⟩
  | false =>
    have HW := Lib.hid (fun w => within_eq p.K 1 2 _ hN w)
    have HE : Hid (m5 p = false) := Lib.hid (by simp [m5, hN])
    clear hN
    go_enter Tryz.func29, Tryz.ntmps29
    go_wp2_with fail
    refine (HW.out _).mono ?_
    rintro e w' ⟨rfl, rfl⟩
    go_wp2
    go_ret
    exact ⟨ret_bool HE.out.symm, World.grownBy.refl _ none⟩
set_option maxHeartbeats 400000 in
theorem may_6 (p : Par) (g : Nat) (w : World) (hb : Bk w g 24 p.cells) :
    Calls Tryz.prog 30 #[.pointer (some ⟨g, 0, none⟩)] w fun e w' => e = .returned (.bool (m6 p)) ∧ w.grownBy w' none := by
  have hc := hb.prule
  have HW := Lib.hid (fun w => within_eq p.R 1 p.D _ rfl w)
  clear hb
  go_enter Tryz.func30, Tryz.ntmps30
  go_wp2_with fail
  refine (HW.out _).mono ?_
  rintro e w' ⟨rfl, rfl⟩
  go_wp2
  go_ret
  exact ⟨rfl, World.grownBy.refl _ none⟩
set_option maxHeartbeats 400000 in
theorem may_7 (p : Par) (g : Nat) (w : World) (hb : Bk w g 24 p.cells) :
    Calls Tryz.prog 31 #[.pointer (some ⟨g, 0, none⟩)] w fun e w' => e = .returned (.bool (m7 p)) ∧ w.grownBy w' none := by
  have hc := hb.prule
  clear hb
  cases hN : withinB p.M 1 1048576 with
  | true =>
    have HW := Lib.hid (fun w => within_eq p.M 1 1048576 _ hN w)
    have HV := Lib.hid (fun w => within_eq p.X 1 1048576 _ rfl w)
    have HE : Hid (m7 p = withinB p.X 1 1048576) := Lib.hid (by simp [m7, hN])
    clear hN
    go_enter Tryz.func31, Tryz.ntmps31
    go_wp2_with fail
    refine (HW.out _).mono ?_
    rintro e w' ⟨rfl, rfl⟩
    go_wp2_with fail
    refine (HV.out _).mono ?_
    rintro e w' ⟨rfl, rfl⟩
    go_wp2
    go_ret
    exact ⟨ret_bool HE.out.symm, World.grownBy.refl _ none⟩
  | false =>
    have HW := Lib.hid (fun w => within_eq p.M 1 1048576 _ hN w)
    have HE : Hid (m7 p = false) := Lib.hid (by simp [m7, hN])
    clear hN
    go_enter Tryz.func31, Tryz.ntmps31
    go_wp2_with fail
    refine (HW.out _).mono ?_
    rintro e w' ⟨rfl, rfl⟩
    go_wp2
    go_ret
    exact ⟨ret_bool HE.out.symm, World.grownBy.refl _ none⟩
theorem mul_bd (a b x y : Int) (ha0 : 0 ≤ a) (ha : a ≤ x) (hb0 : 0 ≤ b) (hb : b ≤ y) : 0 ≤ a * b ∧ a * b ≤ x * y :=
  ⟨Int.mul_nonneg ha0 hb0, Int.mul_le_mul ha hb hb0 (by omega)⟩
set_option maxHeartbeats 400000 in
theorem may_8 (p : Par) (g : Nat) (w : World) (hp : p.ok) (hb : Bk w g 24 p.cells) (h5 : m5 p = true) (h7 : m7 p = true) :
    Calls Tryz.prog 32 #[.pointer (some ⟨g, 0, none⟩)] w fun e w' => e = .returned (.bool (m8 p)) ∧ w.grownBy w' none := by
  have hc := hb.prule
  simp only [m5, m7, Bool.and_eq_true, withinB_iff] at h5 h7
  obtain ⟨_, d0, d1⟩ := h5
  obtain ⟨⟨a0, a1⟩, x0, x1⟩ := h7
  obtain ⟨q0, q1⟩ := hp.Q
  obtain ⟨e0, e1⟩ := mul_bd p.D p.M 4 1048576 (by omega) d1 (by omega) a1
  obtain ⟨f0, f1⟩ := mul_bd (p.D * p.M) p.X (4 * 1048576) 1048576 e0 e1 (by omega) x1
  have HE : Hid (m8 p = decide (2 * (p.D * p.M * p.X + p.M) < p.Q)) := Lib.hid rfl
  clear hb hp
  go_enter Tryz.func32, Tryz.ntmps32
  go_wp2
  go_ret
  exact ⟨ret_bool HE.out.symm, World.grownBy.refl _ none⟩
end Go.Proofs.YtiimippmihkgcaaGreatDoor

namespace Go.Proofs.YtiimippmihkgcaaGreatDoor
open Go.RowKit

theorem cell_lt {w : World} {g o : Nat} {v : Value} (h : w.cell? ⟨g, o, none⟩ = some v) : g < w.heap.size := by
  rcases Nat.lt_or_ge g w.heap.size with hlt | hge
  · exact hlt
  · simp [World.cell?, Array.getElem?_eq_none hge] at h
theorem TabsAt.kept {w w' : World} (h : TabsAt w) (hg : w.grownBy w' none) : TabsAt w' :=
  ⟨fun j hj => by have := h.1 j hj; rw [World.cell?_of_block (w := w) (hg.block _ (cell_lt this) (by simp))]; exact this,
   fun j hj => by have := h.2 j hj; rw [World.cell?_of_block (w := w) (hg.block _ (cell_lt this) (by simp))]; exact this⟩
set_option maxHeartbeats 400000 in
theorem may_9 (p : Par) (g : Nat) (w : World) (hT : TabsAt w) (hb : Bk w g 24 p.cells) :
    Calls Tryz.prog 33 #[.pointer (some ⟨g, 0, none⟩)] w fun e w' => e = .returned (.bool (m9 p)) ∧ w.grownBy w' none := by
  have hc := hb.prule
  have HQ := prime_any p.Q w hT
  have HP := Lib.hid (fun k => prime_any p.P (w.drewN k) (hT.drewN k))
  clear hb hT
  cases hQ : primeB p.Q with
  | true =>
    rw [hQ] at HQ
    have HQ2 := Lib.hid HQ
    have HE : Hid (m9 p = primeB p.P) := Lib.hid (by simp [m9, hQ])
    clear hQ HQ
    go_enter Tryz.func33, Tryz.ntmps33
    go_wp2_with fail
    refine HQ2.out.mono ?_
    rintro e w' ⟨rfl, k, rfl⟩
    go_wp2_with fail
    refine (HP.out k).mono ?_
    rintro e w' ⟨rfl, k2, rfl⟩
    go_wp2
    go_ret
    exact ⟨ret_bool HE.out.symm, grownBy_drewN (World.grownBy.refl w none) _⟩
  | false =>
    rw [hQ] at HQ
    have HQ2 := Lib.hid HQ
    have HE : Hid (m9 p = false) := Lib.hid (by simp [m9, hQ])
    clear hQ HQ
    go_enter Tryz.func33, Tryz.ntmps33
    go_wp2_with fail
    refine HQ2.out.mono ?_
    rintro e w' ⟨rfl, k, rfl⟩
    go_wp2
    go_ret
    exact ⟨ret_bool HE.out.symm, grownBy_drewN (World.grownBy.refl w none) _⟩
theorem is_eq (p : Par) (x : Int) (b : Bool) (h : isB p x = b) (w : World) (hp : p.ok) (h1 : U64 x) :
    Calls Tryz.prog 36 #[p.v, .int .u64 x] w fun e' w' => e' = .returned (.bool b) ∧ w.grownBy w' none := h ▸ is_any p x w hp h1
set_option maxHeartbeats 400000 in
theorem may_10 (p : Par) (g : Nat) (w : World) (hp : p.ok) (hb : Bk w g 24 p.cells) :
    Calls Tryz.prog 35 #[.pointer (some ⟨g, 0, none⟩)] w fun e w' => e = .returned (.bool (m10 p)) ∧ w.grownBy w' none := by
  have hc := hb.prule
  have HB := Lib.hid hb
  by_cases h1 : p.G = 1
  · have h1' : (p.G != 1) = false := by simpa using h1
    have HE : Hid (m10 p = false) := Lib.hid (by simp [m10, h1])
    clear h1 hp hb
    go_enter Tryz.func35, Tryz.ntmps35
    go_wp2
    go_ret
    exact ⟨ret_bool HE.out.symm, World.grownBy.refl w none⟩
  · have h1' : (p.G != 1) = true := by simpa using h1
    cases hG : isB p p.G with
    | false =>
      have HI := Lib.hid (fun w => is_eq p p.G _ hG w hp hp.G)
      have HE : Hid (m10 p = false) := Lib.hid (by simp [m10, hG])
      clear h1 hp hb hG
      go_enter Tryz.func35, Tryz.ntmps35
      go_wp2_with fail
      refine (HI.out _).mono ?_
      rintro e w1 ⟨rfl, hg⟩
      have HG := Lib.hid hg
      clear hg
      go_wp2
      go_ret
      exact ⟨ret_bool HE.out.symm, HG.out⟩
    | true =>
      have HI := Lib.hid (fun w => is_eq p p.G _ hG w hp hp.G)
      by_cases h2 : p.H = 1
      · have h2' : (p.H != 1) = false := by simpa using h2
        have HE : Hid (m10 p = false) := Lib.hid (by simp [m10, h2])
        clear h1 h2 hp hb hG
        go_enter Tryz.func35, Tryz.ntmps35
        go_wp2_with fail
        refine (HI.out _).mono ?_
        rintro e w1 ⟨rfl, hg⟩
        have HG := Lib.hid hg
        have hc1 := (HB.out.grown hg (by simp)).prule
        clear hg
        go_wp2
        go_ret
        exact ⟨ret_bool HE.out.symm, HG.out⟩
      · have h2' : (p.H != 1) = true := by simpa using h2
        have HJ := Lib.hid (fun w => is_any p p.H w hp hp.H)
        have HE : Hid (m10 p = isB p p.H) := Lib.hid (by simp [m10, hG, h1, h2])
        clear h1 h2 hp hb hG
        go_enter Tryz.func35, Tryz.ntmps35
        go_wp2_with fail
        refine (HI.out _).mono ?_
        rintro e w1 ⟨rfl, hg⟩
        have HG := Lib.hid hg
        have hc1 := (HB.out.grown hg (by simp)).prule
        clear hg
        go_wp2_with fail
        refine (HJ.out _).mono ?_
        rintro e w2 ⟨rfl, hg⟩
        have HG2 := Lib.hid (HG.out.trans hg)
        clear hg
        go_wp2
        go_ret
        exact ⟨ret_bool HE.out.symm, HG2.out⟩
def ms (p : Par) : List Bool := [m1 p, m2 p, m3 p, m4 p, m5 p, m6 p, m7 p, m8 p, m9 p, m10 p]
def fvs (g : Nat) : List Value := [.func (.func 24) #[] #[.pointer (some ⟨g, 0, none⟩)], .func (.func 25) #[] #[.pointer (some ⟨g, 0, none⟩)], .func (.func 27) #[] #[.pointer (some ⟨g, 0, none⟩)], .func (.func 28) #[] #[.pointer (some ⟨g, 0, none⟩)], .func (.func 29) #[] #[.pointer (some ⟨g, 0, none⟩)], .func (.func 30) #[] #[.pointer (some ⟨g, 0, none⟩)], .func (.func 31) #[] #[.pointer (some ⟨g, 0, none⟩)], .func (.func 32) #[] #[.pointer (some ⟨g, 0, none⟩)], .func (.func 33) #[] #[.pointer (some ⟨g, 0, none⟩)], .func (.func 35) #[] #[.pointer (some ⟨g, 0, none⟩)]]

set_option maxHeartbeats 400000 in
theorem ask_1 (p : Par) (g : Nat) (w : World) (hp : p.ok) (_hT : TabsAt w) (hb : Bk w g 24 p.cells)  :
    Calls Tryz.prog 38 #[.func (.func 24) #[] #[.pointer (some ⟨g, 0, none⟩)]] w fun e w' => e = .returned (.bool (!m1 p)) ∧ w.grownBy w' none := by
  have HM := Lib.hid (may_1 p g w hp hb)
  clear hp _hT hb
  go_enter Tryz.func38, Tryz.ntmps38
  go_wp2_with fail
  refine HM.out.mono ?_
  rintro e w1 ⟨rfl, hg⟩
  have HG := Lib.hid hg
  clear hg
  go_wp2
  go_ret
  exact ⟨rfl, HG.out⟩
set_option maxHeartbeats 400000 in
theorem ask_2 (p : Par) (g : Nat) (w : World) (_hp : p.ok) (_hT : TabsAt w) (hb : Bk w g 24 p.cells)  :
    Calls Tryz.prog 38 #[.func (.func 25) #[] #[.pointer (some ⟨g, 0, none⟩)]] w fun e w' => e = .returned (.bool (!m2 p)) ∧ w.grownBy w' none := by
  have HM := Lib.hid (may_2 p g w hb)
  clear _hp _hT hb
  go_enter Tryz.func38, Tryz.ntmps38
  go_wp2_with fail
  refine HM.out.mono ?_
  rintro e w1 ⟨rfl, hg⟩
  have HG := Lib.hid hg
  clear hg
  go_wp2
  go_ret
  exact ⟨rfl, HG.out⟩
set_option maxHeartbeats 400000 in
theorem ask_3 (p : Par) (g : Nat) (w : World) (hp : p.ok) (_hT : TabsAt w) (hb : Bk w g 24 p.cells) (h2 : m2 p = true) :
    Calls Tryz.prog 38 #[.func (.func 27) #[] #[.pointer (some ⟨g, 0, none⟩)]] w fun e w' => e = .returned (.bool (!m3 p)) ∧ w.grownBy w' none := by
  have HM := Lib.hid (may_3 p g w hp hb h2)
  clear hp _hT hb h2
  go_enter Tryz.func38, Tryz.ntmps38
  go_wp2_with fail
  refine HM.out.mono ?_
  rintro e w1 ⟨rfl, hg⟩
  have HG := Lib.hid hg
  clear hg
  go_wp2
  go_ret
  exact ⟨rfl, HG.out⟩
set_option maxHeartbeats 400000 in
theorem ask_4 (p : Par) (g : Nat) (w : World) (_hp : p.ok) (_hT : TabsAt w) (hb : Bk w g 24 p.cells)  :
    Calls Tryz.prog 38 #[.func (.func 28) #[] #[.pointer (some ⟨g, 0, none⟩)]] w fun e w' => e = .returned (.bool (!m4 p)) ∧ w.grownBy w' none := by
  have HM := Lib.hid (may_4 p g w hb)
  clear _hp _hT hb
  go_enter Tryz.func38, Tryz.ntmps38
  go_wp2_with fail
  refine HM.out.mono ?_
  rintro e w1 ⟨rfl, hg⟩
  have HG := Lib.hid hg
  clear hg
  go_wp2
  go_ret
  exact ⟨rfl, HG.out⟩
set_option maxHeartbeats 400000 in
theorem ask_5 (p : Par) (g : Nat) (w : World) (_hp : p.ok) (_hT : TabsAt w) (hb : Bk w g 24 p.cells)  :
    Calls Tryz.prog 38 #[.func (.func 29) #[] #[.pointer (some ⟨g, 0, none⟩)]] w fun e w' => e = .returned (.bool (!m5 p)) ∧ w.grownBy w' none := by
  have HM := Lib.hid (may_5 p g w hb)
  clear _hp _hT hb
  go_enter Tryz.func38, Tryz.ntmps38
  go_wp2_with fail
  refine HM.out.mono ?_
  rintro e w1 ⟨rfl, hg⟩
  have HG := Lib.hid hg
  clear hg
  go_wp2
  go_ret
  exact ⟨rfl, HG.out⟩
set_option maxHeartbeats 400000 in
theorem ask_6 (p : Par) (g : Nat) (w : World) (_hp : p.ok) (_hT : TabsAt w) (hb : Bk w g 24 p.cells)  :
    Calls Tryz.prog 38 #[.func (.func 30) #[] #[.pointer (some ⟨g, 0, none⟩)]] w fun e w' => e = .returned (.bool (!m6 p)) ∧ w.grownBy w' none := by
  have HM := Lib.hid (may_6 p g w hb)
  clear _hp _hT hb
  go_enter Tryz.func38, Tryz.ntmps38
  go_wp2_with fail
  refine HM.out.mono ?_
  rintro e w1 ⟨rfl, hg⟩
  have HG := Lib.hid hg
  clear hg
  go_wp2
  go_ret
  exact ⟨rfl, HG.out⟩
set_option maxHeartbeats 400000 in
theorem ask_7 (p : Par) (g : Nat) (w : World) (_hp : p.ok) (_hT : TabsAt w) (hb : Bk w g 24 p.cells)  :
    Calls Tryz.prog 38 #[.func (.func 31) #[] #[.pointer (some ⟨g, 0, none⟩)]] w fun e w' => e = .returned (.bool (!m7 p)) ∧ w.grownBy w' none := by
  have HM := Lib.hid (may_7 p g w hb)
  clear _hp _hT hb
  go_enter Tryz.func38, Tryz.ntmps38
  go_wp2_with fail
  refine HM.out.mono ?_
  rintro e w1 ⟨rfl, hg⟩
  have HG := Lib.hid hg
  clear hg
  go_wp2
  go_ret
  exact ⟨rfl, HG.out⟩
set_option maxHeartbeats 400000 in
theorem ask_8 (p : Par) (g : Nat) (w : World) (hp : p.ok) (_hT : TabsAt w) (hb : Bk w g 24 p.cells) (h5 : m5 p = true) (h7 : m7 p = true) :
    Calls Tryz.prog 38 #[.func (.func 32) #[] #[.pointer (some ⟨g, 0, none⟩)]] w fun e w' => e = .returned (.bool (!m8 p)) ∧ w.grownBy w' none := by
  have HM := Lib.hid (may_8 p g w hp hb h5 h7)
  clear hp _hT hb h5 h7
  go_enter Tryz.func38, Tryz.ntmps38
  go_wp2_with fail
  refine HM.out.mono ?_
  rintro e w1 ⟨rfl, hg⟩
  have HG := Lib.hid hg
  clear hg
  go_wp2
  go_ret
  exact ⟨rfl, HG.out⟩
set_option maxHeartbeats 400000 in
theorem ask_9 (p : Par) (g : Nat) (w : World) (_hp : p.ok) (hT : TabsAt w) (hb : Bk w g 24 p.cells)  :
    Calls Tryz.prog 38 #[.func (.func 33) #[] #[.pointer (some ⟨g, 0, none⟩)]] w fun e w' => e = .returned (.bool (!m9 p)) ∧ w.grownBy w' none := by
  have HM := Lib.hid (may_9 p g w hT hb)
  clear _hp hT hb
  go_enter Tryz.func38, Tryz.ntmps38
  go_wp2_with fail
  refine HM.out.mono ?_
  rintro e w1 ⟨rfl, hg⟩
  have HG := Lib.hid hg
  clear hg
  go_wp2
  go_ret
  exact ⟨rfl, HG.out⟩
set_option maxHeartbeats 400000 in
theorem ask_10 (p : Par) (g : Nat) (w : World) (hp : p.ok) (_hT : TabsAt w) (hb : Bk w g 24 p.cells)  :
    Calls Tryz.prog 38 #[.func (.func 35) #[] #[.pointer (some ⟨g, 0, none⟩)]] w fun e w' => e = .returned (.bool (!m10 p)) ∧ w.grownBy w' none := by
  have HM := Lib.hid (may_10 p g w hp hb)
  clear hp _hT hb
  go_enter Tryz.func38, Tryz.ntmps38
  go_wp2_with fail
  refine HM.out.mono ?_
  rintro e w1 ⟨rfl, hg⟩
  have HG := Lib.hid hg
  clear hg
  go_wp2
  go_ret
  exact ⟨rfl, HG.out⟩
theorem ask_any (p : Par) (g : Nat) (w : World) (hp : p.ok) (hT : TabsAt w) (hb : Bk w g 24 p.cells) : ∀ (j : Nat) (_h : j < (fvs g).length) (h' : j < (ms p).length), (∀ i (hi : i < j), (ms p)[i]'(by omega) = true) →
    Calls Tryz.prog 38 #[(fvs g)[j]] w fun e w' => e = .returned (.bool (!(ms p)[j])) ∧ w.grownBy w' none
  | 0, _, _, _ => ask_1 p g w hp hT hb
  | 1, _, _, _ => ask_2 p g w hp hT hb
  | 2, _, _, hh => ask_3 p g w hp hT hb (hh 1 (by omega))
  | 3, _, _, _ => ask_4 p g w hp hT hb
  | 4, _, _, _ => ask_5 p g w hp hT hb
  | 5, _, _, _ => ask_6 p g w hp hT hb
  | 6, _, _, _ => ask_7 p g w hp hT hb
  | 7, _, _, hh => ask_8 p g w hp hT hb (hh 4 (by omega)) (hh 6 (by omega))
  | 8, _, _, _ => ask_9 p g w hp hT hb
  | 9, _, _, _ => ask_10 p g w hp hT hb
  | n + 10, h, _, _ => absurd h (by simp [fvs])
theorem mayP_all (p : Par) : mayP p = (ms p).all id := by simp [mayP, ms, Bool.and_assoc]
/-- What IndexFunc tells of the asks. -/
def Found (p : Par) (w : World) (e : Ending) (w' : World) : Prop := ∃ n : Int, e = .returned (.int .i64 n) ∧ decide (0 ≤ n) = !mayP p ∧ w.grownBy w' none
set_option maxHeartbeats 400000 in
theorem index_any (p : Par) (g ga : Nat) (t : TypeId) (w : World) (hp : p.ok) (hT : TabsAt w) (hb : Bk w g 24 p.cells) (ha : Bk w ga t (fvs g).toArray) :
    Calls Tryz.prog 88 #[.slice (some ⟨ga, 0, none⟩) 10 10, .func (.func 38) #[] #[]] w (Found p w) := by
  have HP := Lib.hid hp
  have HT := Lib.hid hT
  have HB := Lib.hid hb
  have HA := Lib.hid ha
  clear hp hT hb ha
  go_enter Tryz.func88, Tryz.ntmps88
  go_wp2_with fail
  go_loopg [8] 10 (fun n s8 wx => ∃ j : Nat, j + n = 10 ∧ s8 = .int .i64 j ∧ Hid (w.grownBy wx none ∧ ∀ i (_ : i < j) (h : i < (ms p).length), (ms p)[i] = true))
  case atStart => exact ⟨0, by omega, rfl, Lib.hid ⟨World.grownBy.refl w none, fun i hi => absurd hi (by omega)⟩⟩
  case round =>
    obtain ⟨j, hj, rfl, HX⟩ := hrel
    cases gk with
    | zero =>
      obtain rfl : j = 10 := by omega
      have HE : Hid (Found p w (.returned (.int .i64 (-1))) wr) := Lib.hid ⟨-1, rfl, by
        have : mayP p = true := by
          rw [mayP_all, List.all_eq_true]
          intro b hb
          obtain ⟨i, hi, rfl⟩ := List.getElem_of_mem hb
          exact HX.out.2 i (by simp [ms] at hi; omega) hi
        rw [this]
        rfl, HX.out.1⟩
      clear HX
      go_wp2
      go_ret
      exact HE.out
    | succ k =>
      have hjn : (j : Int) < 10 := by omega
      have hj1 : j < (fvs g).length := by simp [fvs]; omega
      have hj2 : j < (ms p).length := by simp [ms]; omega
      have hcell : wr.cell? ⟨ga, j, none⟩ = some (fvs g)[j] := by
        rw [(HA.out.grown HX.out.1 (by simp)).cell j, List.getElem?_toArray]
        exact List.getElem?_eq_getElem hj1
      have HC := Lib.hid (ask_any p g wr HP.out (HT.out.kept HX.out.1) (HB.out.grown HX.out.1 (by simp)) j hj1 hj2 (fun i hi => HX.out.2 i hi (by omega)))
      have HV : Hid ((ms p)[j] = true ∨ (ms p)[j] = false) := Lib.hid (by cases (ms p)[j] <;> simp)
      have HR : Hid ((ms p)[j] = true → ∀ i (_ : i < j + 1) (h : i < (ms p).length), (ms p)[i] = true) := Lib.hid (fun h i hi hl => by
        rcases Nat.lt_or_ge i j with h1 | h1
        · exact HX.out.2 i h1 hl
        · obtain rfl : i = j := by omega
          exact h)
      have HN : Hid ((ms p)[j] = false → mayP p = false) := Lib.hid (fun h => by
        rw [mayP_all, Bool.eq_false_iff]
        intro hall
        rw [List.all_eq_true] at hall
        have := hall _ (List.getElem_mem hj2)
        simp [h] at this)
      have HG := Lib.hid HX.out.1
      generalize (fvs g)[j] = fv at *
      generalize (ms p)[j] = b at *
      clear HX hj1 hj2
      rcases HV.out with rfl | rfl
      · go_wp2_with fail
        refine HC.out.mono ?_
        rintro e w1 ⟨rfl, hg⟩
        have HG1 := Lib.hid (HG.out.trans hg)
        clear hg
        go_wp2
        go_roundg k
        case measure => omega
        case rel => exact ⟨j + 1, by omega, by go_num, Lib.hid ⟨HG1.out, HR.out (by simp)⟩⟩
      · have HE : Hid (∀ w1, w.grownBy w1 none → Found p w (.returned (.int .i64 j)) w1) := Lib.hid (fun w1 hg => ⟨j, rfl, by rw [HN.out rfl]; simp, hg⟩)
        go_wp2_with fail
        refine HC.out.mono ?_
        rintro e w1 ⟨rfl, hg⟩
        have HG1 := Lib.hid (HG.out.trans hg)
        clear hg
        go_wp2
        go_ret
        exact HE.out _ HG1.out
set_option maxHeartbeats 400000 in
theorem contains_any (p : Par) (g ga : Nat) (t : TypeId) (w : World) (hp : p.ok) (hT : TabsAt w) (hb : Bk w g 24 p.cells) (ha : Bk w ga t (fvs g).toArray) :
    Calls Tryz.prog 37 #[.slice (some ⟨ga, 0, none⟩) 10 10, .func (.func 38) #[] #[]] w fun e w' => e = .returned (.bool (!mayP p)) ∧ w.grownBy w' none := by
  have HI := Lib.hid (index_any p g ga t w hp hT hb ha)
  clear hp hT hb ha
  go_enter Tryz.func37, Tryz.ntmps37
  go_wp2_with fail
  refine HI.out.mono ?_
  rintro e w1 ⟨n, rfl, hn, hg⟩
  have HN := Lib.hid hn
  have HG := Lib.hid hg
  clear hn hg
  go_wp2
  go_ret
  exact ⟨ret_bool HN.out, HG.out⟩
set_option maxHeartbeats 400000 in
theorem may_any (p : Par) (w : World) (hp : p.ok) (hT : TabsAt w) :
    Calls Tryz.prog 5 #[p.v] w fun e w' => e = .returned (.bool (mayP p)) ∧ w.grownBy w' none := by
  have hg1 : w.grownBy (w.alloc (Obj.cells p.cells 24)) none := World.grownBy_alloc w _ none
  have hg2 := World.grownBy_alloc (w.alloc (Obj.cells p.cells 24)) (Obj.cells (fvs w.heap.size).toArray 26) none
  have HC := Lib.hid (contains_any p w.heap.size (w.heap.size + 1) 26 ((w.alloc (Obj.cells p.cells 24)).alloc (Obj.cells (fvs w.heap.size).toArray 26)) hp (hT.kept (hg1.trans hg2)) ((Bk.new w _ _).alloc _)
    (by have := Bk.new (w.alloc (Obj.cells p.cells 24)) 26 (fvs w.heap.size).toArray; rwa [World.size_alloc] at this))
  have HGR := Lib.hid (hg1.trans hg2)
  clear hp hT hg1 hg2
  unfold fvs at HC HGR
  go_enter Tryz.func5, Tryz.ntmps5
  go_wp2_with fail
  refine HC.out.mono ?_
  rintro e w1 ⟨rfl, hg⟩
  have HG := Lib.hid (HGR.out.trans hg)
  clear hg
  go_wp2
  go_ret
  exact ⟨ret_bool (by simp), HG.out⟩
end Go.Proofs.YtiimippmihkgcaaGreatDoor

namespace Go.Proofs.YtiimippmihkgcaaGreatDoor
open Go.RowKit

def Quietly (w : World) (v : Value) (e : Ending) (w' : World) : Prop := e = .returned v ∧ ∃ n, w' = w.drewN n

set_option maxHeartbeats 400000 in
theorem same_eq (v1 v2 : Value) (xs : List (Int × Int)) (X Y : Nat → Prop) (w : World) (h1 : Sl encP X w v1 xs) (h2 : Sl encP Y w v2 xs) :
    Calls Tryz.prog 23 #[v1, v2] w (Quietly w (.bool true)) := by
  have H1 := Lib.hid h1
  have H2 := Lib.hid h2
  obtain ⟨A1, c1, rfl, hc1, hc2⟩ := h1.form
  obtain ⟨A2, c2, rfl, _, _⟩ := h2.form
  clear h1 h2
  have HST : Hid (∃ n, w = w.drewN n) := Lib.hid ⟨0, rfl⟩
  go_enter Tryz.func23, Tryz.ntmps23
  go_wp2_with fail
  go_loopg [5] xs.length (fun g s5 wx => ∃ j : Nat, j + g = xs.length ∧ s5 = .int .i64 j ∧ Hid (∃ n, wx = w.drewN n))
  case atStart => exact ⟨0, by omega, rfl, HST⟩
  case round =>
    obtain ⟨j, hj, rfl, HX⟩ := hrel
    obtain ⟨n0, rfl⟩ := HX.out
    cases gk with
    | zero =>
      obtain rfl : j = xs.length := by omega
      clear HX HST
      go_wp2
      go_ret
      exact ⟨rfl, _, rfl⟩
    | succ m =>
      have hjn : (j : Int) < (xs.length : Int) := by omega
      have hj0 : (0 : Int) ≤ (j : Int) := by omega
      have hjN : j < xs.length := by omega
      obtain ⟨g1, o1, c1', e1, _, _, a1, b1, u1, u2⟩ := H1.out.atP hjN
      injection e1 with e11 e12 e13
      subst e11 e13
      obtain ⟨g2, o2, c2', e2, _, _, a2, b2, _, _⟩ := H2.out.atP hjN
      injection e2 with e21 e22 e23
      subst e21 e23
      clear HX HST e12 e22
      generalize xs[j].1 = y1 at *
      generalize xs[j].2 = y2 at *
      go_wp2_with fail
      go_quiet (fail)
      go_wp2_with fail
      go_roundg m
      case measure => omega
      case rel => exact ⟨j + 1, by omega, by go_num, Lib.hid ⟨_, rfl⟩⟩

end Go.Proofs.YtiimippmihkgcaaGreatDoor

namespace Go.Proofs.YtiimippmihkgcaaGreatDoor
open Go Go.RowKit

set_option maxRecDepth 100000 in
set_option maxHeartbeats 2000000 in
theorem models_eq (a1 b1 a2 b2 : Value) (W : List (List Int)) (B : List Int) (X Y Z T : Nat → Prop) (w : World) (h1 : Sl (encS encI) X w a1 W) (h2 : Sl encI Y w b1 B) (h3 : Sl (encS encI) Z w a2 W) (h4 : Sl encI T w b2 B) :
    Calls Tryz.prog 21 #[.agg #[a1, b1], .agg #[a2, b2]] w fun e w' => e = .returned (.bool true) ∧ w.grownBy w' none := by
  obtain ⟨A1, c1, rfl, ka1, kb1⟩ := h1.form
  obtain ⟨A2, c2, rfl, ka2, kb2⟩ := h2.form
  obtain ⟨A3, c3, rfl, ka3, kb3⟩ := h3.form
  obtain ⟨A4, c4, rfl, ka4, kb4⟩ := h4.form
  have HGW : Hid (w.grownBy ((w.alloc (.cells #[.slice A1 W.length c1, .slice A2 B.length c2] 30)).alloc (.cells #[.slice A3 W.length c3, .slice A4 B.length c4] 30)) none) := Lib.hid grown_two
  have HB1 : Hid (Bk ((w.alloc (.cells #[.slice A1 W.length c1, .slice A2 B.length c2] 30)).alloc (.cells #[.slice A3 W.length c3, .slice A4 B.length c4] 30)) w.heap.size 30 #[.slice A1 W.length c1, .slice A2 B.length c2]) := Lib.hid ((Bk.new w _ _).alloc _)
  have HB2 : Hid (Bk ((w.alloc (.cells #[.slice A1 W.length c1, .slice A2 B.length c2] 30)).alloc (.cells #[.slice A3 W.length c3, .slice A4 B.length c4] 30)) (w.heap.size + 1) 30 #[.slice A3 W.length c3, .slice A4 B.length c4]) := Lib.hid (by
    have h := Bk.new (w.alloc (.cells #[.slice A1 W.length c1, .slice A2 B.length c2] 30)) 30 #[.slice A3 W.length c3, .slice A4 B.length c4]
    rw [World.size_alloc] at h
    exact h)
  have H1 := Lib.hid (h1.kept HGW.out)
  have H2 := Lib.hid (h2.kept HGW.out)
  have H3 := Lib.hid (h3.kept HGW.out)
  have H4 := Lib.hid (h4.kept HGW.out)
  clear h1 h2 h3 h4
  have hs1 : (w.alloc (.cells #[.slice A1 W.length c1, .slice A2 B.length c2] 30)).heap.size = w.heap.size + 1 := by simp
  obtain ⟨WB, hWB⟩ : ∃ x, (w.alloc (.cells #[.slice A1 W.length c1, .slice A2 B.length c2] 30)).alloc (.cells #[.slice A3 W.length c3, .slice A4 B.length c4] 30) = x := ⟨_, rfl⟩
  rw [hWB] at HGW HB1 HB2 H1 H2 H3 H4
  have q1 := HB1.out.cell 0
  have q2 := HB1.out.cell 1
  have q3 := HB2.out.cell 0
  have q4 := HB2.out.cell 1
  simp at q1 q2 q3 q4
  have HST : Hid (∃ n, WB = WB.drewN n) := Lib.hid ⟨0, rfl⟩
  obtain ⟨m, hm⟩ : ∃ m, m = B.length := ⟨_, rfl⟩
  have HM := Lib.hid hm
  rw [← hm] at H2 H4 q2 q4 ka2 ka4 hWB hs1 ⊢
  clear hm HB1 HB2
  go_enter Tryz.func21, Tryz.ntmps21
  go_wp2_with fail
  go_loopg [5] W.length (fun g s5 wx => ∃ j : Nat, j + g = W.length ∧ s5 = .int .i64 j ∧ Hid (∃ n, wx = WB.drewN n))
  case atStart => exact ⟨0, by omega, rfl, HST⟩
  case round =>
    obtain ⟨j, hj, rfl, HX⟩ := hrel
    obtain ⟨n0, rfl⟩ := HX.out
    clear HX
    cases gk with
    | zero =>
      obtain rfl : j = W.length := by omega
      have HS2 : Hid (∃ n, WB.drewN n0 = WB.drewN n) := Lib.hid ⟨n0, rfl⟩
      go_wp2_with fail
      go_loopg [7] m (fun g s7 wx => ∃ j : Nat, j + g = m ∧ s7 = .int .i64 j ∧ Hid (∃ n, wx = WB.drewN n))
      case atStart => exact ⟨0, by omega, rfl, HS2⟩
      case round =>
        obtain ⟨k, hk, rfl, HX⟩ := hrel
        obtain ⟨n1, rfl⟩ := HX.out
        clear HX
        cases gk with
        | zero =>
          obtain rfl : k = m := by omega
          have HFG : Hid (w.grownBy (WB.drewN n1) none) := Lib.hid (HGW.out.trans (grown_drewN' WB n1))
          clear HST HS2
          go_wp2
          go_ret
          exact ⟨rfl, HFG.out⟩
        | succ m2 =>
          have hkn : (k : Int) < (m : Int) := by omega
          have hk0 : (0 : Int) ≤ (k : Int) := by omega
          have hkN : k < B.length := by rw [← HM.out]; omega
          have hkM : k < m := by omega
          obtain ⟨g1, o1, c1', e1, _, _, r1, _⟩ := H2.out.atI hkN
          rw [← HM.out] at e1
          injection e1 with e11 e12 e13
          subst e11 e13
          obtain ⟨g2, o2, c2', e2, _, _, r2, _⟩ := H4.out.atI hkN
          rw [← HM.out] at e2
          injection e2 with e21 e22 e23
          subst e21 e23
          clear HST HS2 e12 e22
          generalize B[k] = y at *
          go_wp2_with fail
          go_quiet (fail)
          go_wp2_with fail
          go_roundg m2
          case measure => omega
          case rel => exact ⟨k + 1, by omega, by go_num, Lib.hid ⟨_, rfl⟩⟩
    | succ m1 =>
      have hjn : (j : Int) < (W.length : Int) := by omega
      have hj0 : (0 : Int) ≤ (j : Int) := by omega
      have hjN : j < W.length := by omega
      obtain ⟨g1, o1, c1', t1, e1, _, _, r1, k1⟩ := H1.out.atS hjN
      injection e1 with e11 e12 e13
      subst e11 e13
      obtain ⟨g2, o2, c2', t2, e2, _, _, r2, k2⟩ := H3.out.atS hjN
      injection e2 with e21 e22 e23
      subst e21 e23
      have hbd := k1.bound
      have K1 := Lib.hid k1
      have K2 := Lib.hid k2
      obtain ⟨D1, d1, rfl, _, _⟩ := k1.form
      obtain ⟨D2, d2, rfl, _, _⟩ := k2.form
      clear HST e12 e22 k1 k2
      obtain ⟨row, hrow⟩ : ∃ r, r = W[j] := ⟨_, rfl⟩
      rw [← hrow] at K1 K2 r1 r2 hbd
      obtain ⟨n2, hn2⟩ : ∃ n, n = row.length := ⟨_, rfl⟩
      have HN2 := Lib.hid hn2
      rw [← hn2] at K1 K2 r1 r2 hbd
      clear hrow hn2
      go_wp2_with fail
      go_quiet (fail)
      go_wp2_with fail
      go_loopg [6] n2 (fun g s6 wx => ∃ k : Nat, k + g = n2 ∧ s6 = .int .i64 k ∧ Hid (∃ n, wx = WB.drewN n))
      case atStart => exact ⟨0, by omega, rfl, Lib.hid ⟨_, World.drewN_drewN _ _ _⟩⟩
      case round =>
        obtain ⟨k, hk, rfl, HX⟩ := hrel
        obtain ⟨n3, rfl⟩ := HX.out
        clear HX
        cases gk with
        | zero =>
          obtain rfl : k = n2 := by omega
          go_wp2_with fail
          go_roundg m1
          case measure => omega
          case rel => exact ⟨j + 1, by omega, by go_num, Lib.hid ⟨_, rfl⟩⟩
        | succ m2 =>
          have hkn : (k : Int) < (n2 : Int) := by omega
          have hk0 : (0 : Int) ≤ (k : Int) := by omega
          have hkN : k < row.length := by rw [← HN2.out]; omega
          have hkM : k < n2 := by omega
          obtain ⟨g3, o3, c3', e3, _, _, r3, _⟩ := K1.out.atI hkN
          rw [← HN2.out] at e3
          injection e3 with e31 e32 e33
          subst e31 e33
          obtain ⟨g4, o4, c4', e4, _, _, r4, _⟩ := K2.out.atI hkN
          rw [← HN2.out] at e4
          injection e4 with e41 e42 e43
          subst e41 e43
          clear e32 e42
          generalize row[k] = y at *
          go_wp2_with fail
          go_quiet (fail)
          go_wp2_with fail
          go_roundg m2
          case measure => omega
          case rel => exact ⟨k + 1, by omega, by go_num, Lib.hid ⟨_, rfl⟩⟩
end Go.Proofs.YtiimippmihkgcaaGreatDoor

namespace Go.Proofs.YtiimippmihkgcaaGreatDoor
open Go Go.RowKit

def invF (a m : Int) : Option Nat := (List.range m.toNat).find? fun x => (a * (x : Int)) % m == 1 % m
theorem invF_some {a m : Int} {x : Nat} (h : invF a m = some x) : (x : Int) < m ∧ Cg m (a * x) 1 := by
  have h1 := List.find?_some h
  have h2 := List.mem_of_find?_eq_some h
  have h3 := List.mem_range.1 h2
  refine ⟨by omega, ?_⟩
  simp at h1
  exact h1
theorem hasInv_invF {a m : Int} (hm : 0 < m) : HasInv a m ↔ (invF a m).isSome = true := by
  constructor
  · rintro ⟨x, h1, h2, h3⟩
    rw [Option.isSome_iff_ne_none]
    intro hn
    have := List.find?_eq_none.1 hn x.toNat (List.mem_range.2 (by omega))
    rw [Int.toNat_of_nonneg h1] at this
    simp at this
    exact this h3
  · intro h
    obtain ⟨x, hx⟩ := Option.isSome_iff_exists.1 h
    obtain ⟨h1, h2⟩ := invF_some hx
    exact ⟨x, by omega, h1, h2⟩
theorem invI_invF {a m : Int} (hm : 0 < m) : invI a m = ((invF a m).getD 0 : Nat) := by
  cases h : invF a m with
  | none =>
    have : ¬ HasInv a m := by rw [hasInv_invF hm, h]; simp
    simp [invI, this]
  | some x =>
    obtain ⟨h1, h2⟩ := invF_some h
    exact invI_eq (by omega) h1 h2
def wErrC (q : Int) (xs : List Int) (at_ : Int) : Int := if unlikeI xs q = 0 then (if (List.range xs.length).all fun i => (invF (underI q xs at_ i) q).isSome then 0 else 5) else unlikeI xs q
theorem wErr_eq (q : Int) (xs : List Int) (at_ : Int) : wErr q xs at_ = wErrC q xs at_ := by
  unfold wErr wErrC
  split
  · rename_i h
    have hm := (unlikeI_zero h).1
    simp [mayB] at hm
    have : (∀ i, i < xs.length → HasInv (underI q xs at_ i) q) ↔ ((List.range xs.length).all fun i => (invF (underI q xs at_ i) q).isSome) = true := by
      rw [List.all_eq_true]
      exact ⟨fun h i hi => (hasInv_invF hm.1).1 (h i (List.mem_range.1 hi)), fun h i hi => (hasInv_invF hm.1).2 (h i (List.mem_range.2 hi))⟩
    simp only [this]
  · rfl
def wListC (q : Int) (xs : List Int) (at_ : Int) : List Int := if wErrC q xs at_ = 0 then (List.range xs.length).map fun i => mulI ((invF (underI q xs at_ i) q).getD 0 : Nat) (overI q xs at_ i) q else []
theorem wList_eq (q : Int) (xs : List Int) (at_ : Int) : wList q xs at_ = wListC q xs at_ := by
  unfold wList wListC
  rw [wErr_eq]
  split
  · rename_i h
    have hu : unlikeI xs q = 0 := Classical.byContradiction fun hn => by
      unfold wErrC at h
      rw [if_neg hn] at h
      exact hn h
    have hm := (unlikeI_zero hu).1
    simp [mayB] at hm
    refine List.map_congr_left fun i _ => ?_
    rw [wAt, invI_invF hm.1]
  · rfl
def sumEC (p : Par) (at_ : List Int) (l : List (List (Int × Int))) : Int := if smallB p && membersB at_ && at_.length == l.length && !l.any (fun x => oddB p x) then wErrC p.Q at_ 0 else 1
def sumLC (p : Par) (at_ : List Int) (l : List (List (Int × Int))) : List (Int × Int) := if sumEC p at_ l = 0 then (List.range (secretsI p).toNat).map fun s => comeP p.Q (l.map fun x => x[s]?.getD (0, 0)) (wListC p.Q at_ 0) (0, 0) else []
theorem sumE_eq (p : Par) (at_ : List Int) (l : List (List (Int × Int))) : sumE p at_ l = sumEC p at_ l := by unfold sumE sumEC; rw [wErr_eq]
theorem sumL_eq (p : Par) (at_ : List Int) (l : List (List (Int × Int))) : sumL p at_ l = sumLC p at_ l := by unfold sumL sumLC; rw [sumE_eq, wList_eq]
def comsEC (p : Par) (deals : List (Int × List (List Int))) : Int :=
  if smallB p && decide (0 ≤ p.T ∧ p.T ≤ 2) && !deals.any (fun d => !((d.2.length : Int) == secretsI p) || d.2.any (shortB p)) && membersB (deals.map (·.1)) then wErrC p.Q (deals.map (·.1)) 0 else 1
def comsLC (p : Par) (deals : List (Int × List (List Int))) : List (List Int) :=
  if comsEC p deals = 0 then (List.range (secretsI p).toNat).map fun s => (List.range (p.T + 1).toNat).map fun j => comeU p.P (deals.map fun d => (d.2[s]?.getD [])[j]?.getD 0) (wListC p.Q (deals.map (·.1)) 0) (timesI p.P []) else []
theorem comsE_eq (p : Par) (deals : List (Int × List (List Int))) : comsE p deals = comsEC p deals := by unfold comsE comsEC; rw [wErr_eq]
theorem comsL_eq (p : Par) (deals : List (Int × List (List Int))) : comsL p deals = comsLC p deals := by unfold comsL comsLC; rw [comsE_eq, wList_eq]
abbrev ps : Par := ⟨23, 11, 4, 9, 4, 4, 1, 1, 1, 1, 1, 1⟩
theorem ps_ok : ps.ok := ⟨⟨by decide, by decide⟩, ⟨by decide, by decide⟩, ⟨by decide, by decide⟩, ⟨by decide, by decide⟩, ⟨by decide, by decide⟩, ⟨by decide, by decide⟩, ⟨by decide, by decide⟩, ⟨by decide, by decide⟩, ⟨by decide, by decide⟩, ⟨by decide, by decide⟩, ⟨by decide, by decide⟩, ⟨by decide, by decide⟩⟩
theorem ex1 : sumL ps [1, 2] [[(6, 5), (0, 0)], [(7, 8), (4, 6)]] = [(5, 2), (7, 5)] := by rw [sumL_eq]; decide +kernel
theorem ex2 : comsL ps [(1, [[4, 1], [1, 4]]), (2, [[9, 1], [1, 1]])] = [[12, 1], [1, 16]] := by rw [comsL_eq]; decide +kernel
theorem ex3 : modelW ps [1, 10] = [[1]] ∧ modelB ps [1, 10] = [-1] ∧ modelE ps [1, 10] = 0 := by decide +kernel
set_option maxHeartbeats 400000 in
theorem small20_any (w : World) : Calls Tryz.prog 22 #[] w fun e w' => e = .returned ps.v ∧ w.grownBy w' none := by
  have HB := Lib.hid (Bk.new w 24 #[.int .u64 0, .int .u64 0, .int .u64 0, .int .u64 0, .int .i64 0, .int .i64 0, .int .i64 0, .int .i64 0, .int .i64 0, .int .i64 0, .int .i64 0, .int .i64 0])
  go_enter Tryz.func22, Tryz.ntmps22
  go_wp2
  first
    | (go_ret; exact ⟨rfl, World.grownBy.refl _ none⟩)
    | exact bodyPost_ret (v := ps.v) (by simp [results, Tryz.results22, go_sem]) rfl ⟨rfl, World.grownBy_alloc w _ none⟩
end Go.Proofs.YtiimippmihkgcaaGreatDoor

namespace Go.Proofs.YtiimippmihkgcaaGreatDoor
open Go.RowKit

theorem m_may (P : Int) (h1 : 1 ≤ P) (h2 : P ≤ 2305843009213693952) : mayB P = true := by simp [mayB]; omega
theorem may_bds {m : Int} (h : mayB m = true) : 0 < m ∧ m ≤ 2305843009213693952 := by simpa [mayB] using h
theorem times_nil_eq (P : Int) (hm : mayB P = true) : timesI P [] = 1 % P := by
  show mulI 1 1 P = _
  rw [mulI_yes _ _ _ hm, Int.mul_one]
theorem times_two_eq (P a b : Int) (hm : mayB P = true) : timesI P [a, b] = a * b % P := by
  show mulI (mulI (mulI 1 1 P) a P) b P = _
  rw [mulI_yes _ _ _ hm, mulI_yes _ _ _ hm, mulI_yes _ _ _ hm, Int.mul_one]
  exact ((Cg.mod P _).trans ((Cg.mod P 1).mul_right a |>.trans (Cg.of_eq (Int.one_mul a)))).mul_right b
theorem times_two_cg (P a b : Int) (hm : mayB P = true) : Cg P (timesI P [a, b]) (a * b) := by
  rw [times_two_eq _ _ _ hm]
  exact Cg.mod _ _
theorem powI_yes (a e P : Int) (hm : mayB P = true) : powI a e P = a ^ e.toNat % P := by simp [powI, hm]
theorem powI_cg (a e P : Int) (hm : mayB P = true) : Cg P (powI a e P) (a ^ e.toNat) := by
  rw [powI_yes _ _ _ hm]
  exact Cg.mod _ _
theorem powI_base {a b e P : Int} (hm : mayB P = true) (h : Cg P a b) : powI a e P = powI b e P := by
  rw [powI_yes _ _ _ hm, powI_yes _ _ _ hm]
  exact h.pow _
/-- What two things are that are the same modulo P and are told modulo P. -/
theorem pow_unit {P x : Int} {n : Nat} (h : Cg P (x ^ n) 1) (k : Nat) : Cg P (x ^ k) (x ^ (k % n)) := by
  have e : x ^ k = (x ^ n) ^ (k / n) * x ^ (k % n) := by
    rw [← Int.pow_mul, ← Int.pow_add, Nat.div_add_mod]
  rw [e]
  refine ((h.pow (k / n)).mul_right _).trans (Cg.of_eq ?_)
  rw [Int.one_pow, Int.one_mul]
theorem toNat_mod (e Q : Int) (he : 0 ≤ e) (hQ : 0 < Q) : (e % Q).toNat = e.toNat % Q.toNat := by
  obtain ⟨a, rfl⟩ := Int.eq_ofNat_of_zero_le he
  obtain ⟨b, rfl⟩ := Int.eq_ofNat_of_zero_le (Int.le_of_lt hQ)
  have e : ((a : Int) % (b : Int)) = ((a % b : Nat) : Int) := by simp
  rw [e, Int.toNat_natCast, Int.toNat_natCast, Int.toNat_natCast]
theorem pow_mod {P x Q e : Int} (h : Cg P (x ^ Q.toNat) 1) (he : 0 ≤ e) (hQ : 0 < Q) : Cg P (x ^ (e % Q).toNat) (x ^ e.toNat) := by
  rw [toNat_mod e Q he hQ]
  exact (pow_unit h _).symm
/-- A power by a sum modulo Q. -/
theorem pow_addQ {P x Q e f : Int} (h : Cg P (x ^ Q.toNat) 1) (he : 0 ≤ e) (hf : 0 ≤ f) (hQ : mayB Q = true) : Cg P (x ^ (addI e f Q).toNat) (x ^ e.toNat * x ^ f.toNat) := by
  rw [addI_yes _ _ _ hQ]
  refine (pow_mod h (by omega) (may_bds hQ).1).trans (Cg.of_eq ?_)
  rw [← Int.pow_add, Int.toNat_add he hf]
theorem pow_mulQ {P x Q e f : Int} (h : Cg P (x ^ Q.toNat) 1) (he : 0 ≤ e) (hf : 0 ≤ f) (hQ : mayB Q = true) : Cg P (x ^ (mulI e f Q).toNat) ((x ^ e.toNat) ^ f.toNat) := by
  rw [mulI_yes _ _ _ hQ]
  refine (pow_mod h (Int.mul_nonneg he hf) (may_bds hQ).1).trans (Cg.of_eq ?_)
  rw [← Int.pow_mul, Int.toNat_mul he hf]

/-- What params that may be give. -/
structure Good (p : Par) : Prop where
  P : mayB p.P = true
  Q : mayB p.Q = true
  P2 : 2 ≤ p.P
  Q2 : 2 ≤ p.Q
  G : Cg p.P (p.G ^ p.Q.toNat) 1
  H : Cg p.P (p.H ^ p.Q.toNat) 1
  T : 1 ≤ p.T ∧ p.T ≤ 2
  N : 3 * p.T + 1 ≤ p.N ∧ p.N ≤ 7 ∧ p.N < p.Q
  K : 1 ≤ p.K ∧ p.K ≤ 2
  D : 1 ≤ p.D ∧ p.D ≤ 4
  prime : primeB p.Q = true ∧ primeB p.P = true
  M : 1 ≤ p.M ∧ p.M ≤ 1048576
  X : 1 ≤ p.X ∧ p.X ≤ 1048576
  big : 2 * (p.D * p.M * p.X + p.M) < p.Q
theorem is_cg {p : Par} {x : Int} (hP : mayB p.P = true) (h2 : 2 ≤ p.P) (h : isB p x = true) : Cg p.P (x ^ p.Q.toNat) 1 := by
  simp only [isB, Bool.and_eq_true, beq_iff_eq] at h
  have e := h.2
  rw [powI_yes _ _ _ hP] at e
  unfold Cg
  rw [e, Int.emod_eq_of_lt (by decide) (by omega)]
theorem good_of {p : Par} (h : mayP p = true) : Good p := by
  simp only [mayP, m1, m2, m3, m4, m5, m6, m7, m8, m9, m10, Bool.and_eq_true, withinB_iff, decide_eq_true_eq, beq_iff_eq] at h
  obtain ⟨⟨⟨⟨⟨⟨⟨⟨⟨⟨⟨⟨a1, a2⟩, a3⟩, a4⟩, b1, b2⟩, ⟨c1, c2⟩, c3⟩, d1⟩, ⟨e1, e2⟩, f1, f2⟩, g1⟩, ⟨i1, i2⟩, j1, j2⟩, k1⟩, l1, l2⟩, ⟨⟨n1, n2⟩, n3⟩, n4⟩ := h
  have hP := m_may p.P (by omega) a2
  have hd : p.Q ∣ p.P - 1 := Int.dvd_of_emod_eq_zero a4
  have hQ : p.Q ≤ p.P - 1 := Int.le_of_dvd (by omega) hd
  exact ⟨hP, m_may p.Q (by omega) (by omega), a1, a3, is_cg hP a1 n2, is_cg hP a1 n4, ⟨b1, b2⟩, ⟨c1, c2, c3⟩, ⟨e1, e2⟩, ⟨f1, f2⟩, ⟨l1, l2⟩, ⟨i1, i2⟩, ⟨j1, j2⟩, k1⟩

theorem pow_group {P g Q a : Int} (hm : mayB P = true) (h : Cg P (g ^ Q.toNat) 1) : Cg P ((powI g a P) ^ Q.toNat) 1 := by
  refine ((powI_cg g a P hm).pow _).trans ?_
  rw [← Int.pow_mul, Nat.mul_comm, Int.pow_mul]
  exact (h.pow _).trans (Cg.of_eq Int.one_pow)
/-- GroupPowers's three. -/
theorem powers_1 {P x Q e f : Int} (hm : mayB P = true) (hQ : mayB Q = true) (h : Cg P (x ^ Q.toNat) 1) (he : 0 ≤ e) (hf : 0 ≤ f) : timesI P [powI x e P, powI x f P] = powI x (addI e f Q) P := by
  rw [times_two_eq _ _ _ hm, powI_yes _ _ _ hm, powI_yes _ _ _ hm, powI_yes _ _ _ hm]
  exact (((Cg.mod P _).mul (Cg.mod P _)).trans (pow_addQ h he hf hQ).symm)
theorem powers_2 {P x Q e : Int} (hm : mayB P = true) (hQ : mayB Q = true) (h : Cg P (x ^ Q.toNat) 1) (he : 0 ≤ e) : powI x e P = powI x (e % Q) P := by
  rw [powI_yes _ _ _ hm, powI_yes _ _ _ hm]
  exact (pow_mod h he (may_bds hQ).1).symm
theorem powers_3 {P x Q e f : Int} (hm : mayB P = true) (hQ : mayB Q = true) (h : Cg P (x ^ Q.toNat) 1) (he : 0 ≤ e) (hf : 0 ≤ f) : powI (powI x e P) f P = powI x (mulI e f Q) P := by
  rw [powI_base hm (powI_cg x e P hm), powI_yes _ _ _ hm, powI_yes _ _ _ hm]
  exact (pow_mulQ h he hf hQ).symm

theorem commit_eq (p : Par) (x : Int × Int) (hm : mayB p.P = true) : commitI p x = p.G ^ x.1.toNat * p.H ^ x.2.toNat % p.P := by
  unfold commitI
  rw [times_two_eq _ _ _ hm]
  exact (powI_cg _ _ _ hm).mul (powI_cg _ _ _ hm)
theorem commit_cg (p : Par) (x : Int × Int) (hm : mayB p.P = true) : Cg p.P (commitI p x) (p.G ^ x.1.toNat * p.H ^ x.2.toNat) := by
  rw [commit_eq _ _ hm]
  exact Cg.mod _ _
theorem mul4 (a b c d : Int) : a * b * (c * d) = a * c * (b * d) := by
  rw [Int.mul_assoc, Int.mul_assoc, ← Int.mul_assoc b c d, Int.mul_comm b c, Int.mul_assoc c b d]
/-- The product of commitments is the one to the sums. -/
theorem sums_1 {p : Par} (h : Good p) (x y : Int × Int) (x1 : 0 ≤ x.1) (x2 : 0 ≤ x.2) (y1 : 0 ≤ y.1) (y2 : 0 ≤ y.2) : timesI p.P [commitI p x, commitI p y] = commitI p (addI x.1 y.1 p.Q, addI x.2 y.2 p.Q) := by
  rw [times_two_eq _ _ _ h.P, commit_eq p (addI x.1 y.1 p.Q, addI x.2 y.2 p.Q) h.P]
  refine ((commit_cg _ _ h.P).mul (commit_cg _ _ h.P)).trans ?_
  rw [mul4]
  exact ((pow_addQ h.G x1 y1 h.Q).mul (pow_addQ h.H x2 y2 h.Q)).symm
/-- A power of a commitment is the one to the multiples. -/
theorem sums_2 {p : Par} (h : Good p) (x : Int × Int) (k : Int) (x1 : 0 ≤ x.1) (x2 : 0 ≤ x.2) (hk : 0 ≤ k) : powI (commitI p x) k p.P = commitI p (mulI x.1 k p.Q, mulI x.2 k p.Q) := by
  rw [powI_yes _ _ _ h.P, commit_eq p (mulI x.1 k p.Q, mulI x.2 k p.Q) h.P]
  refine ((commit_cg _ _ h.P).pow _).trans ?_
  rw [Int.mul_pow]
  exact ((pow_mulQ h.G x1 hk h.Q).mul (pow_mulQ h.H x2 hk h.Q)).symm

/-- The values of polynomials, as the law reckons them. -/
def valGo (Q i : Int) : List (Int × Int) → Int × Int → Int → Int × Int
  | [], v, _ => v
  | y :: l, v, e => valGo Q i l (addI v.1 (mulI y.1 e Q) Q, addI v.2 (mulI y.2 e Q) Q) (mulI e i Q)
theorem commit_zero {p : Par} (h : Good p) : commitI p (0, 0) = timesI p.P [] := by
  rw [commit_eq _ _ h.P, times_nil_eq _ h.P]
  simp
theorem at_val {p : Par} (h : Good p) (i : Int) (hi : 0 ≤ i) : ∀ (l : List (Int × Int)) (v : Int × Int) (e : Int), (∀ y ∈ l, 0 ≤ y.1 ∧ 0 ≤ y.2) → 0 ≤ v.1 → 0 ≤ v.2 → 0 ≤ e →
    atGo p i (l.map (commitI p)) (commitI p v) e = commitI p (valGo p.Q i l v e)
  | [], v, e, _, _, _, _ => rfl
  | y :: l, v, e, hl, h1, h2, he => by
    obtain ⟨y1, y2⟩ := hl y (by simp)
    have k1 := mulI_U64 y.1 e p.Q
    have k2 := mulI_U64 y.2 e p.Q
    have k3 := mulI_U64 e i p.Q
    have k4 := addI_U64 v.1 (mulI y.1 e p.Q) p.Q
    have k5 := addI_U64 v.2 (mulI y.2 e p.Q) p.Q
    show atGo p i (l.map (commitI p)) (timesI p.P [commitI p v, powI (commitI p y) e p.P]) (mulI e i p.Q) = _
    rw [sums_2 h y e y1 y2 he, sums_1 h v _ h1 h2 k1.1 k2.1]
    exact at_val h i hi l _ _ (fun z hz => hl z (by simp [hz])) k4.1 k5.1 k3.1
theorem at_commits {p : Par} (h : Good p) (i : Int) (hi : 0 ≤ i) (l : List (Int × Int)) (hl : ∀ y ∈ l, 0 ≤ y.1 ∧ 0 ≤ y.2) : atI p (l.map (commitI p)) i = commitI p (valGo p.Q i l (0, 0) 1) := by
  unfold atI
  rw [← commit_zero h, show mulI 1 1 p.Q = 1 by rw [mulI_yes _ _ _ h.Q]; exact Int.emod_eq_of_lt (by decide) (by have := h.Q2; omega)]
  exact at_val h i hi l _ _ hl (by decide) (by decide) (by decide)
theorem mulI_modr (e i Q : Int) : mulI e (i % Q) Q = mulI e i Q := by
  simp only [mulI]
  rw [show i % Q % Q = i % Q from Cg.mod Q i]
theorem atGo_mod (p : Par) (i : Int) : ∀ (l : List Int) (x e : Int), atGo p (i % p.Q) l x e = atGo p i l x e
  | [], _, _ => rfl
  | y :: l, x, e => by
    show atGo p (i % p.Q) l _ (mulI e (i % p.Q) p.Q) = atGo p i l _ (mulI e i p.Q)
    rw [mulI_modr]
    exact atGo_mod p i l _ _
theorem at_mod (p : Par) (l : List Int) (i : Int) : atI p l (i % p.Q) = atI p l i := atGo_mod p i l _ _
end Go.Proofs.YtiimippmihkgcaaGreatDoor

namespace Go.Proofs.YtiimippmihkgcaaGreatDoor
open Go.RowKit

theorem hasInv_of {a m x : Int} (hm : 0 < m) (h : Cg m (a * x) 1) : HasInv a m :=
  ⟨x % m, Int.emod_nonneg _ (by omega), Int.emod_lt_of_pos _ hm, ((Cg.mod m x).mul_left a).trans h⟩
theorem hasInv_cg {a b m : Int} (h : HasInv a m) (k : Cg m b a) : HasInv b m := by
  obtain ⟨x, h0, h1, hx⟩ := h
  exact ⟨x, h0, h1, (k.mul_right x).trans hx⟩
theorem hasInv_mul {a b m : Int} (hm : 0 < m) (h : HasInv a m) (k : HasInv b m) : HasInv (a * b) m := by
  obtain ⟨x, _, _, hx⟩ := h
  obtain ⟨y, _, _, hy⟩ := k
  refine hasInv_of hm (x := x * y) ((Cg.of_eq ?_).trans (hx.mul hy))
  rw [Int.mul_assoc, Int.mul_assoc, ← Int.mul_assoc b, Int.mul_comm b x, Int.mul_assoc]
theorem hasInv_neg {a m : Int} (hm : 0 < m) (h : HasInv a m) : HasInv (-a) m := by
  obtain ⟨x, _, _, hx⟩ := h
  exact hasInv_of hm (x := -x) ((Cg.of_eq (Int.neg_mul_neg a x)).trans hx)
theorem hasInv_lin {a q k x : Int} (hq : 0 < q) (h : a * x = k * q + 1) : HasInv a q := hasInv_of hq (x := x) (Cg.of_dvd ⟨k, by rw [h, Int.mul_comm]; omega⟩)
theorem hasInv_two {q : Int} (hq : 0 < q) (h : q % 2 ≠ 0) : HasInv 2 q := hasInv_lin hq (k := 1) (x := (q + 1) / 2) (by omega)
theorem hasInv_three {q : Int} (hq : 0 < q) (h : q % 3 ≠ 0) : HasInv 3 q := by
  have h3 : q % 3 = 1 ∨ q % 3 = 2 := by omega
  rcases h3 with h3 | h3
  · exact hasInv_lin hq (k := 2) (x := (2 * q + 1) / 3) (by omega)
  · exact hasInv_lin hq (k := 1) (x := (q + 1) / 3) (by omega)
theorem hasInv_five {q : Int} (hq : 0 < q) (h : q % 5 ≠ 0) : HasInv 5 q := by
  have h5 : q % 5 = 1 ∨ q % 5 = 2 ∨ q % 5 = 3 ∨ q % 5 = 4 := by omega
  rcases h5 with h5 | h5 | h5 | h5
  · exact hasInv_lin hq (k := 4) (x := (4 * q + 1) / 5) (by omega)
  · exact hasInv_lin hq (k := 2) (x := (2 * q + 1) / 5) (by omega)
  · exact hasInv_lin hq (k := 3) (x := (3 * q + 1) / 5) (by omega)
  · exact hasInv_lin hq (k := 1) (x := (q + 1) / 5) (by omega)
/-- Numbers from 1 to below n have inverses. -/
def Apart (q : Int) (n : Int) : Prop := ∀ d, 1 ≤ d → d < n → HasInv d q
theorem prime_small {q : Int} (h : primeB q = true) : (q % 2 = 0 → q = 2) ∧ (q % 3 = 0 → q = 3 ∨ q % 2 = 0) ∧ (q % 5 = 0 → q = 5 ∨ q % 2 = 0 ∨ q % 3 = 0) := by
  unfold primeB at h
  split at h
  · cases h
  · unfold triedL at h
    refine ⟨fun h2 => ?_, fun h3 => ?_, fun h5 => ?_⟩
    · simp only [goB, h2, if_true] at h
      simpa using h
    · by_cases h2 : q % 2 = 0
      · exact .inr h2
      · simp only [goB, h2, if_false, h3, if_true] at h
        left
        split at h
        · simpa using h
        · cases h
    · by_cases h2 : q % 2 = 0
      · exact .inr (.inl h2)
      · by_cases h3 : q % 3 = 0
        · exact .inr (.inr h3)
        · simp only [goB, h2, if_false, h3, h5, if_true] at h
          left
          split at h
          · split at h
            · simpa using h
            · cases h
          · cases h
theorem may_apart {p : Par} (h : mayP p = true) : mayB p.Q = true ∧ mayB p.P = true ∧ Apart p.Q p.N ∧ 4 ≤ p.N ∧ p.N ≤ 7 ∧ p.N < p.Q ∧ 1 ≤ p.T ∧ p.T ≤ 2 ∧ 3 * p.T + 1 ≤ p.N ∧ smallB p = true ∧ 1 ≤ p.K ∧ 1 ≤ p.D := by
  simp only [mayP, m1, m2, m3, m5, m9, Bool.and_eq_true, withinB_iff, decide_eq_true_eq] at h
  obtain ⟨⟨⟨⟨⟨⟨⟨⟨⟨a1, a2⟩, a3⟩, _⟩, a5⟩, _⟩, _⟩, _⟩, a9⟩, _⟩ := h
  obtain ⟨⟨⟨p1, p2⟩, q1⟩, pq⟩ := a1
  obtain ⟨t1, t2⟩ := a2
  obtain ⟨⟨n1, n2⟩, n3⟩ := a3
  obtain ⟨⟨k1, k2⟩, d1, d2⟩ := a5
  obtain ⟨hq, hp⟩ := a9
  have hQ : p.Q ≤ 2305843009213693952 := by
    unfold primeB at hq
    split at hq
    · cases hq
    · omega
  obtain ⟨s2, s3, s5⟩ := prime_small hq
  have hq0 : 0 < p.Q := by omega
  have i2 : HasInv 2 p.Q := hasInv_two hq0 fun e => by have := s2 e; omega
  have i3 : HasInv 3 p.Q := hasInv_three hq0 fun e => by
    rcases s3 e with e | e
    · omega
    · have := s2 e; omega
  have i1 : HasInv 1 p.Q := hasInv_lin hq0 (k := 0) (x := 1) (by omega)
  refine ⟨by simp [mayB]; omega, by simp [mayB]; omega, fun d e1 e2 => ?_, by omega, n2, n3, t1, t2, n1, by simp [smallB]; omega, k1, d1⟩
  have hd : d = 1 ∨ d = 2 ∨ d = 3 ∨ d = 4 ∨ d = 5 ∨ d = 6 := by omega
  rcases hd with rfl | rfl | rfl | rfl | rfl | rfl
  · exact i1
  · exact i2
  · exact i3
  · exact hasInv_mul hq0 i2 i2
  · refine hasInv_five hq0 fun e => ?_
    rcases s5 e with e | e | e
    · omega
    · have := s2 e; omega
    · rcases s3 e with e | e
      · omega
      · have := s2 e; omega
  · exact hasInv_mul hq0 i2 i3
def prodZ (l : List Int) : Int := l.foldr (· * ·) 1
theorem prodZ_append (a b : List Int) : prodZ (a ++ b) = prodZ a * prodZ b := by
  induction a with
  | nil => simp [prodZ]
  | cons x a ih =>
    show x * prodZ (a ++ b) = x * prodZ a * prodZ b
    rw [ih, Int.mul_assoc]
theorem prodZ_reverse (l : List Int) : prodZ l.reverse = prodZ l := by
  induction l with
  | nil => rfl
  | cons x l ih =>
    rw [List.reverse_cons, prodZ_append, ih]
    show prodZ l * (x * 1) = x * prodZ l
    rw [Int.mul_one, Int.mul_comm]
theorem foldl_mul_cg (q : Int) (hq : mayB q = true) : ∀ (l : List Int) (s : Int), Cg q (l.foldl (fun s y => mulI s y q) s) (s * prodZ l)
  | [], s => Cg.of_eq (Int.mul_one s).symm
  | y :: l, s => by
    refine (foldl_mul_cg q hq l (mulI s y q)).trans ?_
    show Cg q _ (s * (y * prodZ l))
    rw [← Int.mul_assoc]
    refine Cg.mul_right ?_ _
    rw [mulI_yes _ _ _ hq]
    exact Cg.mod _ _
theorem foldl_mul_bd (q : Int) (hq : mayB q = true) : ∀ (l : List Int) (s : Int), 0 ≤ s → s < q → 0 ≤ l.foldl (fun s y => mulI s y q) s ∧ l.foldl (fun s y => mulI s y q) s < q
  | [], _, h1, h2 => ⟨h1, h2⟩
  | y :: l, s, _, _ => foldl_mul_bd q hq l _ (mulI_bd s y q hq).1 (mulI_bd s y q hq).2
theorem mayB_pos {q : Int} (hq : mayB q = true) : 0 < q := by simp [mayB] at hq; exact hq.1
theorem prodI_eq (q : Int) (hq : mayB q = true) (l : List Int) : prodI q l = prodZ l % q := by
  have h0 := mayB_pos hq
  have h1 := foldl_mul_cg q hq l (1 % q)
  have h2 := foldl_mul_bd q hq l (1 % q) (Int.emod_nonneg _ (by omega)) (Int.emod_lt_of_pos _ h0)
  have h3 : Cg q (prodI q l) (prodZ l) := h1.trans (((Cg.mod q 1).mul_right _).trans (Cg.of_eq (Int.one_mul _)))
  unfold Cg at h3
  rw [← h3]
  exact (Int.emod_eq_of_lt h2.1 h2.2).symm
theorem hasInv_prod {q : Int} (hq : 0 < q) : ∀ (l : List Int), (∀ x ∈ l, HasInv x q) → HasInv (prodZ l) q
  | [], _ => hasInv_lin hq (k := 0) (x := 1) (by show (1 : Int) * 1 = _; omega)
  | x :: l, h => hasInv_mul hq (h x (by simp)) (hasInv_prod hq l fun y hy => h y (by simp [hy]))
theorem subI_cg (x y q : Int) (hq : mayB q = true) : Cg q (subI x y q) (x - y) := by
  rw [subI_yes _ _ _ hq]
  exact Cg.mod _ _
/-- Places from 1 to n, each once. -/
def Places (n : Int) (xs : List Int) : Prop := (∀ x ∈ xs, 1 ≤ x ∧ x ≤ n) ∧ xs.Nodup
theorem Places.rev {n : Int} {xs : List Int} (h : Places n xs) : Places n xs.reverse := ⟨fun x hx => h.1 x (List.mem_reverse.1 hx), (List.pairwise_reverse (R := (· ≠ ·))).2 (List.Pairwise.imp Ne.symm h.2)⟩
theorem under_inv {q n : Int} {xs : List Int} (hq : mayB q = true) (ha : Apart q n) (hp : Places n xs) (at_ : Int) (i : Nat) (hi : i < xs.length) : HasInv (underI q xs at_ i) q := by
  have h0 := mayB_pos hq
  unfold underI
  rw [prodI_eq _ hq]
  refine hasInv_cg (hasInv_prod h0 _ fun x hx => ?_) (Cg.mod _ _)
  obtain ⟨⟨a, b⟩, hab, rfl⟩ := List.mem_map.1 hx
  simp only [othersI, othersUp, List.mem_map, List.mem_filter, List.mem_range, bne_iff_ne] at hab
  obtain ⟨j, ⟨hj, hne⟩, he⟩ := hab
  have he1 : a = subI (xs[i]?.getD 0) (xs[j]?.getD 0) q := (congrArg Prod.fst he).symm
  show HasInv a q
  rw [he1]
  refine hasInv_cg ?_ (subI_cg _ _ _ hq)
  rw [List.getElem?_eq_getElem hi, List.getElem?_eq_getElem hj, Option.getD_some, Option.getD_some]
  have hx1 := hp.1 _ (List.getElem_mem hi)
  have hx2 := hp.1 _ (List.getElem_mem hj)
  have hne' : xs[i] ≠ xs[j] := fun e => hne ((List.getElem?_inj hi hp.2).1 (by rw [List.getElem?_eq_getElem hi, List.getElem?_eq_getElem hj, e])).symm
  rcases Int.lt_or_gt_of_ne hne' with h | h
  · have := hasInv_neg h0 (ha (xs[j] - xs[i]) (by omega) (by omega))
    rwa [show -(xs[j] - xs[i]) = xs[i] - xs[j] by omega] at this
  · exact ha (xs[i] - xs[j]) (by omega) (by omega)
theorem seenL_nodup : ∀ (l : List Int), l.Nodup → seenL l = l := by
  intro l
  have key : ∀ (n : Nat) (l : List Int), l.length = n → l.Nodup → seenL l = l := by
    intro n
    induction n with
    | zero => intro l h _; rw [List.eq_nil_of_length_eq_zero h]; rfl
    | succ n ih =>
      intro l h hn
      rcases List.eq_nil_or_concat l with rfl | ⟨l', x, rfl⟩
      · simp at h
      · rw [List.concat_eq_append] at h hn ⊢
        have hl : l'.length = n := by simpa using h
        obtain ⟨h1, _, h3⟩ := List.nodup_append.1 hn
        rw [seenL_snoc, ih l' hl h1]
        have : l'.contains x = false := by
          rw [Bool.eq_false_iff]
          intro hc
          exact h3 x (List.contains_iff_mem.1 hc) x (by simp) rfl
        rw [this]
        rfl
  exact key l.length l rfl
theorem werr_zero {q n : Int} {xs : List Int} (hq : mayB q = true) (ha : Apart q n) (hn : n < q) (hp : Places n xs) (hl : xs.length ≤ 1024) (at_ : Int) : wErr q xs at_ = 0 := by
  have hm : xs.map (· % q) = xs := by
    refine (List.map_congr_left fun x hx => ?_).trans (List.map_id' xs)
    have := hp.1 x hx
    exact Int.emod_eq_of_lt (by omega) (by omega)
  have hu : unlikeI xs q = 0 := by
    unfold unlikeI
    rw [hm, seenL_nodup xs hp.2, if_neg (by rw [hq]; simp), if_neg (by omega), if_neg (by omega)]
  unfold wErr
  rw [if_pos hu, if_pos fun i hi => under_inv hq ha hp at_ i hi]
end Go.Proofs.YtiimippmihkgcaaGreatDoor

namespace Go.Proofs.YtiimippmihkgcaaGreatDoor
open Go.RowKit

theorem filter_ne_reverse (n i : Nat) (hi : i < n) : ((List.range n).filter fun j => j != n - 1 - i).map (fun j => n - 1 - j) = ((List.range n).filter fun j => j != i).reverse := by
  have h1 : (List.range n).reverse = (List.range n).map fun j => n - 1 - j := by
    refine List.ext_getElem (by simp) fun k h1 h2 => ?_
    simp
  rw [← List.filter_reverse, h1, List.filter_map]
  refine congrArg (List.map _) (List.filter_congr fun j hj => ?_)
  have := List.mem_range.1 hj
  simp only [Function.comp]
  rw [Bool.eq_iff_iff]
  simp only [bne_iff_ne]
  omega
theorem others_reverse (q : Int) (xs : List Int) (at_ : Int) (i : Nat) (hi : i < xs.length) : othersI q xs.reverse (xs.length - 1 - i) at_ = (othersI q xs i at_).reverse := by
  unfold othersI othersUp
  rw [List.length_reverse, ← List.map_reverse, ← filter_ne_reverse _ _ hi, List.map_map]
  refine List.map_congr_left fun j hj => ?_
  have hj' := List.mem_range.1 (List.mem_filter.1 hj).1
  have e1 : xs.reverse[xs.length - 1 - i]? = xs[i]? := by
    rw [List.getElem?_reverse (by omega)]
    congr 1
    omega
  have e2 : xs.reverse[j]? = xs[xs.length - 1 - j]? := List.getElem?_reverse hj'
  simp only [Function.comp, e1, e2]
theorem under_reverse (q : Int) (hq : mayB q = true) (xs : List Int) (at_ : Int) (i : Nat) (hi : i < xs.length) : underI q xs.reverse at_ (xs.length - 1 - i) = underI q xs at_ i := by
  unfold underI
  rw [others_reverse q xs at_ i hi, List.map_reverse, prodI_eq _ hq, prodI_eq _ hq, prodZ_reverse]
theorem over_reverse (q : Int) (hq : mayB q = true) (xs : List Int) (at_ : Int) (i : Nat) (hi : i < xs.length) : overI q xs.reverse at_ (xs.length - 1 - i) = overI q xs at_ i := by
  unfold overI
  rw [others_reverse q xs at_ i hi, List.map_reverse, prodI_eq _ hq, prodI_eq _ hq, prodZ_reverse]
theorem wlist_reverse {q n : Int} {xs : List Int} (hq : mayB q = true) (ha : Apart q n) (hn : n < q) (hp : Places n xs) (hl : xs.length ≤ 1024) (at_ : Int) : wList q xs.reverse at_ = (wList q xs at_).reverse := by
  unfold wList
  rw [if_pos (werr_zero hq ha hn hp hl at_), if_pos (werr_zero hq ha hn hp.rev (by rw [List.length_reverse]; exact hl) at_)]
  refine List.ext_getElem (by simp) fun k h1 h2 => ?_
  simp only [List.length_map, List.length_range, List.length_reverse] at h1
  rw [List.getElem_map, List.getElem_range, List.getElem_reverse, List.getElem_map, List.getElem_range]
  simp only [List.length_map, List.length_range]
  have h3 := under_reverse q hq xs at_ (xs.length - 1 - k) (by omega)
  have h4 := over_reverse q hq xs at_ (xs.length - 1 - k) (by omega)
  rw [show xs.length - 1 - (xs.length - 1 - k) = k by omega] at h3 h4
  unfold wAt
  rw [h3, h4]
theorem wlist_length {q n : Int} {xs : List Int} (hq : mayB q = true) (ha : Apart q n) (hn : n < q) (hp : Places n xs) (hl : xs.length ≤ 1024) (at_ : Int) : (wList q xs at_).length = xs.length := by
  unfold wList
  rw [if_pos (werr_zero hq ha hn hp hl at_)]
  simp
def dotZ : List Int → List Int → Int
  | x :: l, k :: ks => x * k + dotZ l ks
  | _, _ => 0
theorem dotZ_append : ∀ (l ks l2 ks2 : List Int), l.length = ks.length → dotZ (l ++ l2) (ks ++ ks2) = dotZ l ks + dotZ l2 ks2
  | [], [], _, _, _ => by simp [dotZ]
  | x :: l, k :: ks, l2, ks2, h => by
    show x * k + dotZ (l ++ l2) (ks ++ ks2) = x * k + dotZ l ks + dotZ l2 ks2
    rw [dotZ_append l ks l2 ks2 (by simpa using h)]
    omega
theorem dotZ_reverse : ∀ (l ks : List Int), l.length = ks.length → dotZ l.reverse ks.reverse = dotZ l ks
  | [], [], _ => rfl
  | x :: l, k :: ks, h => by
    rw [List.reverse_cons, List.reverse_cons, dotZ_append _ _ _ _ (by simpa using h), dotZ_reverse l ks (by simpa using h)]
    show dotZ l ks + (x * k + 0) = x * k + dotZ l ks
    omega
theorem comeP_eq (q : Int) (hq : mayB q = true) : ∀ (l : List (Int × Int)) (ks : List Int) (a : Int × Int), l.length = ks.length → 0 ≤ a.1 → a.1 < q → 0 ≤ a.2 → a.2 < q → comeP q l ks a = ((a.1 + dotZ (l.map (·.1)) ks) % q, (a.2 + dotZ (l.map (·.2)) ks) % q)
  | [], [], a, _, h1, h2, h3, h4 => by
    show a = ((a.1 + 0) % q, (a.2 + 0) % q)
    rw [Int.add_zero, Int.add_zero, Int.emod_eq_of_lt h1 h2, Int.emod_eq_of_lt h3 h4]
  | x :: l, k :: ks, a, h, _, _, _, _ => by
    show comeP q l ks _ = _
    rw [comeP_eq q hq l ks _ (by simpa using h) (addI_bd _ _ _ hq).1 (addI_bd _ _ _ hq).2 (addI_bd _ _ _ hq).1 (addI_bd _ _ _ hq).2]
    have key : ∀ (s y d : Int), (addI s (mulI y k q) q + d) % q = (s + (y * k + d)) % q := fun s y d => by
      rw [addI_yes _ _ _ hq, mulI_yes _ _ _ hq]
      have h1 : Cg q ((s + y * k % q) % q + d) (s + (y * k + d)) := by
        refine (Cg.add ((Cg.mod q _).trans (Cg.add (Cg.refl q s) (Cg.mod q _))) (Cg.refl q d)).trans (Cg.of_eq ?_)
        omega
      exact h1
    rw [key, key]
    rfl
theorem comeP_reverse (q : Int) (hq : mayB q = true) (l : List (Int × Int)) (ks : List Int) (h : l.length = ks.length) : comeP q l.reverse ks.reverse (0, 0) = comeP q l ks (0, 0) := by
  have h0 := mayB_pos hq
  rw [comeP_eq q hq _ _ _ (by simpa using h) (Int.le_refl 0) h0 (Int.le_refl 0) h0, comeP_eq q hq _ _ _ h (Int.le_refl 0) h0 (Int.le_refl 0) h0, List.map_reverse, List.map_reverse, dotZ_reverse _ _ (by simpa using h), dotZ_reverse _ _ (by simpa using h)]
def powZ : List Int → List Int → Int
  | x :: l, k :: ks => x ^ k.toNat * powZ l ks
  | _, _ => 1
theorem powZ_append : ∀ (l ks l2 ks2 : List Int), l.length = ks.length → powZ (l ++ l2) (ks ++ ks2) = powZ l ks * powZ l2 ks2
  | [], [], _, _, _ => by simp [powZ]
  | x :: l, k :: ks, l2, ks2, h => by
    show x ^ k.toNat * powZ (l ++ l2) (ks ++ ks2) = x ^ k.toNat * powZ l ks * powZ l2 ks2
    rw [powZ_append l ks l2 ks2 (by simpa using h), Int.mul_assoc]
theorem powZ_reverse : ∀ (l ks : List Int), l.length = ks.length → powZ l.reverse ks.reverse = powZ l ks
  | [], [], _ => rfl
  | x :: l, k :: ks, h => by
    rw [List.reverse_cons, List.reverse_cons, powZ_append _ _ _ _ (by simpa using h), powZ_reverse l ks (by simpa using h)]
    show powZ l ks * (x ^ k.toNat * 1) = x ^ k.toNat * powZ l ks
    rw [Int.mul_one, Int.mul_comm]
theorem comeU_eq (P : Int) (hP : mayB P = true) : ∀ (l ks : List Int) (a : Int), l.length = ks.length → 0 ≤ a → a < P → comeU P l ks a = a * powZ l ks % P
  | [], [], a, _, h1, h2 => by
    show a = a * 1 % P
    rw [Int.mul_one, Int.emod_eq_of_lt h1 h2]
  | x :: l, k :: ks, a, h, _, _ => by
    have h0 := mayB_pos hP
    show comeU P l ks (timesI P [a, powI x k P]) = _
    have e : timesI P [a, powI x k P] = a * powI x k P % P := times_two_eq P _ _ hP
    rw [comeU_eq P hP l ks _ (by simpa using h) (by rw [e]; exact Int.emod_nonneg _ (by omega)) (by rw [e]; exact Int.emod_lt_of_pos _ h0), e]
    have h1 : Cg P (a * powI x k P % P * powZ l ks) (a * (x ^ k.toNat * powZ l ks)) := by
      refine (((Cg.mod P _).trans (Cg.mul_left (by unfold powI; rw [if_pos hP]; exact Cg.mod P _) a)).mul_right _).trans (Cg.of_eq ?_)
      rw [Int.mul_assoc]
    exact h1
theorem comeU_reverse (P : Int) (hP : mayB P = true) (l ks : List Int) (a : Int) (h : l.length = ks.length) (h1 : 0 ≤ a) (h2 : a < P) : comeU P l.reverse ks.reverse a = comeU P l ks a := by
  rw [comeU_eq P hP _ _ _ (by simpa using h) h1 h2, comeU_eq P hP _ _ _ h h1 h2, powZ_reverse _ _ h]
theorem times_nil_bd (P : Int) (hP : mayB P = true) : 0 ≤ timesI P [] ∧ timesI P [] < P := by
  rw [times_nil_eq P hP]
  exact ⟨Int.emod_nonneg _ (by have := mayB_pos hP; omega), Int.emod_lt_of_pos _ (mayB_pos hP)⟩
/-- The weight of a place alone. -/
theorem wlist_one {q n : Int} (hq : mayB q = true) (hq1 : 1 < q) (ha : Apart q n) (hn : n < q) (x : Int) (hx : 1 ≤ x ∧ x ≤ n) (at_ : Int) : wList q [x] at_ = [1] := by
  have hp : Places n [x] := ⟨fun y hy => by rw [List.mem_singleton.1 hy]; exact hx, by simp⟩
  unfold wList
  rw [if_pos (werr_zero hq ha hn hp (by simp) at_)]
  have h1 : (1 : Int) % q = 1 := Int.emod_eq_of_lt (by omega) hq1
  have hu : underI q [x] at_ 0 = 1 := by unfold underI; rw [prodI_eq _ hq]; exact h1
  have ho : overI q [x] at_ 0 = 1 := by unfold overI; rw [prodI_eq _ hq]; exact h1
  have hi : invI 1 q = 1 := invI_eq (by omega) hq1 (Cg.of_eq (by decide))
  show [wAt q [x] at_ 0] = [1]
  unfold wAt
  rw [hu, ho, hi, mulI_yes _ _ _ hq]
  exact congrArg (fun z => [z]) h1
end Go.Proofs.YtiimippmihkgcaaGreatDoor

namespace Go.Proofs.YtiimippmihkgcaaGreatDoor
open Go.RowKit

/-- Params, and members with their pairs, as a statement has them. -/
structure MemOk (p : Par) (at_ : List Int) (l : List (List (Int × Int))) : Prop where
  may : mayP p = true
  places : Places p.N at_
  some : 0 < at_.length
  len : at_.length = l.length
  rows : ∀ x ∈ l, (x.length : Int) = secretsI p
theorem nodup_le : ∀ (l s : List Int), l.Nodup → (∀ x ∈ l, x ∈ s) → l.length ≤ s.length
  | [], _, _, _ => Nat.zero_le _
  | x :: l, s, hn, hs => by
    obtain ⟨h1, h2⟩ := List.nodup_cons.1 hn
    have hx := hs x (by simp)
    have := nodup_le l (s.erase x) h2 fun y hy => (List.mem_erase_of_ne (fun e => h1 (by rw [← e]; exact hy))).2 (hs y (by simp [hy]))
    rw [List.length_erase_of_mem hx] at this
    have h3 := List.length_pos_of_mem hx
    simp only [List.length_cons]
    omega
theorem Places.len {n : Int} {xs : List Int} (h : Places n xs) (hn : n ≤ 7) : xs.length ≤ 7 := by
  refine nodup_le xs [1, 2, 3, 4, 5, 6, 7] h.2 fun x hx => ?_
  · skip
    have := h.1 x hx
    have : x = 1 ∨ x = 2 ∨ x = 3 ∨ x = 4 ∨ x = 5 ∨ x = 6 ∨ x = 7 := by omega
    rcases this with rfl | rfl | rfl | rfl | rfl | rfl | rfl <;> simp
theorem members_of {n : Int} {xs : List Int} (h : Places n xs) (hn : n ≤ 7) (h0 : 0 < xs.length) : membersB xs = true := by
  simp only [membersB, Bool.and_eq_true, decide_eq_true_eq, Bool.not_eq_true']
  refine ⟨h0, List.any_eq_false.2 fun x hx => ?_⟩
  have := h.1 x hx
  simp [memBad]
  omega
theorem sum_good {p : Par} {at_ : List Int} {l : List (List (Int × Int))} (h : MemOk p at_ l) : sumE p at_ l = 0 := by
  obtain ⟨hq, hP, ha, n1, n2, n3, t1, t2, t3, hs, k1, d1⟩ := may_apart h.may
  unfold sumE
  have ho : l.any (fun x => oddB p x) = false := List.any_eq_false.2 fun x hx => by simp [oddB, h.rows x hx]
  rw [hs, members_of h.places n2 h.some, ho, if_pos (by simp [h.len])]
  exact werr_zero hq ha n3 h.places (by have := h.places.len n2; omega) 0
theorem sum_reverse {p : Par} {at_ : List Int} {l : List (List (Int × Int))} (h : MemOk p at_ l) : sumE p at_.reverse l.reverse = 0 ∧ sumL p at_.reverse l.reverse = sumL p at_ l := by
  obtain ⟨hq, hP, ha, n1, n2, n3, t1, t2, t3, hs, k1, d1⟩ := may_apart h.may
  have hr : MemOk p at_.reverse l.reverse := ⟨h.may, h.places.rev, by simpa using h.some, by simpa using h.len, fun x hx => h.rows x (List.mem_reverse.1 hx)⟩
  refine ⟨sum_good hr, ?_⟩
  unfold sumL
  rw [if_pos (sum_good h), if_pos (sum_good hr)]
  refine List.map_congr_left fun s _ => ?_
  rw [wlist_reverse hq ha n3 h.places (by have := h.places.len n2; omega) 0, List.map_reverse]
  refine comeP_reverse _ hq _ _ ?_
  rw [List.length_map, wlist_length hq ha n3 h.places (by have := h.places.len n2; omega) 0, h.len]
theorem sum_one {p : Par} (hm : mayP p = true) (x : Int) (hx : 1 ≤ x ∧ x ≤ p.N) (th : List (Int × Int)) (ht : (th.length : Int) = secretsI p) : sumE p [x] [th] = 0 ∧ sumL p [x] [th] = th.map fun y => (y.1 % p.Q, y.2 % p.Q) := by
  obtain ⟨hq, hP, ha, n1, n2, n3, t1, t2, t3, hs, k1, d1⟩ := may_apart hm
  have h : MemOk p [x] [th] := ⟨hm, ⟨fun y hy => by rw [List.mem_singleton.1 hy]; exact hx, by simp⟩, by simp, rfl, fun y hy => by rw [List.mem_singleton.1 hy]; exact ht⟩
  have h0 := mayB_pos hq
  refine ⟨sum_good h, ?_⟩
  unfold sumL
  rw [if_pos (sum_good h), wlist_one hq (by omega) ha n3 x hx 0]
  refine List.ext_getElem (by simp; omega) fun k k1 k2 => ?_
  simp only [List.length_map, List.length_range] at k1
  have hk : k < th.length := by omega
  rw [List.getElem_map, List.getElem_range, List.getElem_map]
  show comeP p.Q [th[k]?.getD (0, 0)] [1] (0, 0) = _
  rw [List.getElem?_eq_getElem hk, Option.getD_some, comeP_eq _ hq _ _ _ rfl (Int.le_refl 0) h0 (Int.le_refl 0) h0]
  simp [dotZ]
/-- Dealers and what they dealt, as a statement has them. -/
structure Deals (p : Par) (ds : List (Int × List (List Int))) : Prop where
  may : mayP p = true
  places : Places p.N (ds.map (·.1))
  some : 0 < ds.length
  cols : ∀ d ∈ ds, (d.2.length : Int) = secretsI p ∧ ∀ c ∈ d.2, (c.length : Int) = p.T + 1
theorem coms_good {p : Par} {ds : List (Int × List (List Int))} (h : Deals p ds) : comsE p ds = 0 := by
  obtain ⟨hq, hP, ha, n1, n2, n3, t1, t2, t3, hs, k1, d1⟩ := may_apart h.may
  have hw : wrap64 (p.T + 1) = p.T + 1 := wrap64_small (by omega)
  have ho : ds.any (fun d => !((d.2.length : Int) == secretsI p) || d.2.any (shortB p)) = false := List.any_eq_false.2 fun d hd => by
    obtain ⟨c1, c2⟩ := h.cols d hd
    have : d.2.any (shortB p) = false := List.any_eq_false.2 fun c hc => by simp [shortB, hw, c2 c hc]
    simp [c1, this]
  unfold comsE
  rw [hs, ho, members_of h.places n2 (by simpa using h.some), if_pos (by simp; omega)]
  exact werr_zero hq ha n3 h.places (by have := h.places.len n2; omega) 0
theorem Deals.rev {p : Par} {ds : List (Int × List (List Int))} (h : Deals p ds) : Deals p ds.reverse := ⟨h.may, by rw [List.map_reverse]; exact h.places.rev, by simpa using h.some, fun d hd => h.cols d (List.mem_reverse.1 hd)⟩
theorem coms_reverse {p : Par} {ds : List (Int × List (List Int))} (h : Deals p ds) : comsE p ds.reverse = 0 ∧ comsL p ds.reverse = comsL p ds := by
  obtain ⟨hq, hP, ha, n1, n2, n3, t1, t2, t3, hs, k1, d1⟩ := may_apart h.may
  refine ⟨coms_good h.rev, ?_⟩
  have hl : (ds.map (·.1)).length ≤ 1024 := by have := h.places.len n2; omega
  unfold comsL
  rw [if_pos (coms_good h), if_pos (coms_good h.rev)]
  refine List.map_congr_left fun s _ => List.map_congr_left fun j _ => ?_
  rw [List.map_reverse, List.map_reverse, wlist_reverse hq ha n3 h.places hl 0]
  refine comeU_reverse _ hP _ _ _ ?_ (times_nil_bd _ hP).1 (times_nil_bd _ hP).2
  rw [List.length_map, wlist_length hq ha n3 h.places hl 0, List.length_map]
theorem coms_one {p : Par} (x : Int) (col : List (List Int)) (h : Deals p [(x, col)]) (hb : ∀ c ∈ col, ∀ y ∈ c, 0 ≤ y ∧ y < p.P) : comsE p [(x, col)] = 0 ∧ comsL p [(x, col)] = col := by
  obtain ⟨hq, hP, ha, n1, n2, n3, t1, t2, t3, hs, k1, d1⟩ := may_apart h.may
  refine ⟨coms_good h, ?_⟩
  obtain ⟨c1, c2⟩ := h.cols _ (List.mem_singleton.2 rfl)
  have hx := h.places.1 x (by simp)
  unfold comsL
  rw [if_pos (coms_good h)]
  show (List.range (secretsI p).toNat).map (fun s => (List.range (p.T + 1).toNat).map fun j => comeU p.P [(col[s]?.getD [])[j]?.getD 0] (wList p.Q [x] 0) (timesI p.P [])) = col
  rw [wlist_one hq (by omega) ha n3 x hx 0]
  refine List.ext_getElem (by simp at c1 ⊢; omega) fun s s1 s2 => ?_
  rw [List.getElem_map, List.getElem_range, List.getElem?_eq_getElem s2, Option.getD_some]
  have hc := c2 _ (List.getElem_mem s2)
  refine List.ext_getElem (by simp at hc ⊢; omega) fun j j1 j2 => ?_
  rw [List.getElem_map, List.getElem_range, List.getElem?_eq_getElem j2, Option.getD_some, comeU_eq _ hP [col[s][j]] [1] _ rfl (times_nil_bd _ hP).1 (times_nil_bd _ hP).2, times_nil_eq _ hP]
  obtain ⟨b1, b2⟩ := hb _ (List.getElem_mem s2) _ (List.getElem_mem j2)
  show 1 % p.P * (col[s][j] ^ 1 * 1) % p.P = col[s][j]
  rw [Int.pow_succ, Int.pow_zero, Int.one_mul, Int.mul_one]
  have : Cg p.P (1 % p.P * col[s][j]) col[s][j] := ((Cg.mod p.P 1).mul_right _).trans (Cg.of_eq (Int.one_mul _))
  unfold Cg at this
  rw [this]
  exact Int.emod_eq_of_lt b1 b2
end Go.Proofs.YtiimippmihkgcaaGreatDoor

namespace Go.Proofs.YtiimippmihkgcaaGreatDoor
open Go Go.RowKit Go.Shelf

theorem two_any {g : Nat} {dr : Nat → Int} {TI : Nat → World → Prop} {bl : Nat → Prop} {most : Nat} (p : Par) (hT : Tp g p.Q dr TI bl most) (x : Int) (t k : Nat) (w : World) (hx : U64 x) (hq : U64 p.Q) (hq0 : 0 < p.Q) (ht : (t : Int) = p.T + 1) (h2 : t = 2 ∨ t = 3) (hk : k + (t * t - 1) ≤ most) (hI : TI k w) :
    Calls Tryz.prog 48 #[p.v, .int .u64 x, .func (.func 41) #[.pointer (some ⟨g, 0, none⟩)] #[]] w fun e w' => ∃ v, e = .returned v ∧ Sl (encS encU) (fun b => w.heap.size ≤ b) w' v (twoL x p.Q dr t k) ∧ TI (k + (t * t - 1)) w' ∧ w.grownBy w' (some g) := by
  rcases h2 with rfl | rfl
  · exact two2_any p hT x k w hx hq hq0 (by omega) hk hI
  · exact two3_any p hT x k w hx hq hq0 (by omega) hk hI
set_option maxRecDepth 100000 in
set_option maxHeartbeats 8000000 in
theorem dmake_any (p : Par) (vl : Value) (l : List (Int × Int)) (n : Nat) (X : Nat → Prop) (w : World) {g : Nat} {dr : Nat → Int} {TI : Nat → World → Prop} {bl : Nat → Prop} {most : Nat} (hT : Tp g p.Q dr TI bl most) (hp : p.ok) (hm : mayP p = true) (hTab : TabsAt w) (h : Sl encP X w vl l) (hX : ∀ b, X b → b ≠ g) (hl : (l.length : Int) = secretsI p) (hn : 1 ≤ n ∧ n ≤ 7) (k0 t : Nat) (ht : (t : Int) = p.T + 1) (hI : TI k0 w) (hmost : k0 + l.length * (2 * (t * t - 1)) ≤ most) :
    Calls Tryz.prog 11 #[p.v, vl, .int .i64 n, .pointer (some ⟨g, 0, none⟩)] w fun e w' => ∃ vm vr vc, e = .returned (.tuple #[.agg #[vm, vr, vc], .int .i64 0]) ∧ Sl (encS (encS encU)) (fun b => w.heap.size ≤ b) w' vm (matI p (makeFs l p.Q dr t k0 l.length) (makeBs l p.Q dr t k0 l.length)) ∧ Sl (encS (encS encP)) (fun b => w.heap.size ≤ b) w' vr ((List.range n).map fun j : Nat => rowsP p.Q (makeFs l p.Q dr t k0 l.length) (makeBs l p.Q dr t k0 l.length) t ((j : Int) + 1)) ∧ Sl (encS (encS encP)) (fun b => w.heap.size ≤ b) w' vc ((List.range n).map fun j : Nat => colsP p.Q (makeFs l p.Q dr t k0 l.length) (makeBs l p.Q dr t k0 l.length) t ((j : Int) + 1)) ∧ TI (k0 + l.length * (2 * (t * t - 1))) w' ∧ w.grownBy w' (some g) := by
  have HT := Lib.hid hT
  have HP := Lib.hid hp
  have HX := Lib.hid hX
  obtain ⟨hq, _, _, n1, n2, n3, t1, t2, t3, hs, kk1, dd1⟩ := may_apart hm
  have hsec := smallB_secrets hs
  have HQ : Hid (U64 p.Q ∧ 0 < p.Q) := Lib.hid ⟨hp.Q, mayB_pos hq⟩
  have hL10 : l.length ≤ 10 := by omega
  have ht23 : t = 2 ∨ t = 3 := by omega
  have HT23 := Lib.hid ht23
  obtain ⟨hn1, hn7⟩ := hn
  obtain ⟨dd, hdd⟩ : ∃ y, y = t * t - 1 := ⟨_, rfl⟩
  rw [← hdd] at hmost ⊢
  have HDD := Lib.hid hdd
  obtain ⟨A, c, rfl, hl1, hl2⟩ := h.form
  have hGW : g < w.heap.size := hT.old hI hT.own
  have HGW := Lib.hid hGW
  have HOB : Hid (∀ b, bl b → b < w.heap.size) := Lib.hid (fun b hb => hT.old hI hb)
  obtain ⟨w0, hw0⟩ : ∃ y, y = (w.alloc (Obj.cells p.cells 24)).alloc (Obj.cells #[.slice none 0 0, .slice none 0 0, .slice none 0 0] 48) := ⟨_, rfl⟩
  have HG0 : Hid (w.grownBy w0 none) := Lib.hid (by rw [hw0]; exact grown_two)
  have HB0 : Hid (Bk w0 w.heap.size 24 p.cells) := Lib.hid (by rw [hw0]; exact (Bk.new w _ _).alloc _)
  have HR0 : Hid (Bk w0 (w.heap.size + 1) 48 #[.slice none 0 0, .slice none 0 0, .slice none 0 0]) := Lib.hid (by
    rw [hw0]
    have h := Bk.new (w.alloc (Obj.cells p.cells 24)) 48 #[.slice none 0 0, .slice none 0 0, .slice none 0 0]
    rw [World.size_alloc] at h
    exact h)
  have HI0 : Hid (TI k0 w0) := Lib.hid (hT.keep hI HG0.out (by simp))
  have HMY := Lib.hid (fun (w' : World) (hg : w0.grownBy w' none) => may_any p w' hp (hTab.kept (HG0.out.trans hg)))
  rw [hm] at HMY
  have HMAY := Lib.hid hm
  have HSEC := Lib.hid (dsecrets_any p)
  rw [← hl] at HSEC
  have HL := Lib.hid (h.kept HG0.out)
  have HTP := Lib.hid ht
  have HMO := Lib.hid hmost
  clear hT hp hX hq n1 n2 n3 t1 t2 t3 hs kk1 dd1 hsec hm hTab h hI ht hmost hl hGW hdd ht23
  go_enter Tryz.func11, Tryz.ntmps11
  go_wp2_with fail
  rw [← hw0]
  have hp0 := HB0.out.prule
  clear hw0
  go_wp2_with fail
  refine (HMY.out _ (World.grownBy.refl _ none)).mono ?_
  rintro e w1 ⟨rfl, hg⟩
  have HG1 : Hid (w0.grownBy w1 none) := Lib.hid hg
  have hp1 := (HB0.out.grown hg (by simp)).prule
  clear hg hp0 HMY
  go_wp2_with fail
  refine (HSEC.out _).mono ?_
  rintro e w2 ⟨rfl, hg⟩
  have HG2 : Hid (w0.grownBy w2 none) := Lib.hid (HG1.out.trans hg)
  clear hg hp1 HSEC
  have hn7' : ¬ ((n : Int) > 7) := by omega
  have hn1' : ¬ ((n : Int) < 1) := by omega
  go_upto_region 5 with (fail)
  have HB2 : Hid (Bk w2 w.heap.size 24 p.cells) := Lib.hid (HB0.out.grown HG2.out (by simp))
  have HR2 : Hid (Bk w2 (w.heap.size + 1) 48 #[.slice none 0 0, .slice none 0 0, .slice none 0 0]) := Lib.hid (HR0.out.grown HG2.out (by simp))
  have HI2 : Hid (TI k0 w2) := Lib.hid (HT.out.keep HI0.out HG2.out (by simp))
  have HW2 : Hid (w.heap.size + 1 < w2.heap.size ∧ g < w.heap.size) := Lib.hid ⟨HR2.out.lt, HGW.out⟩
  have HPX : Hid (∀ wx, w2.grownBy wx (some g) → Bk wx w.heap.size 24 p.cells) := Lib.hid (fun wx hg => HB2.out.grown hg (fun e => by injection e with e; have := HW2.out.2; omega))
  have HLX : Hid (∀ wx, w2.grownBy wx (some g) → Sl encP X wx (.slice A l.length c) l) := Lib.hid (fun wx hg => (HL.out.kept HG2.out).keep hg (fun b hb e => HX.out b hb (by injection e with e)))
  have HTW : Hid (∀ (x : Int) (k : Nat) (wx : World), U64 x → k + dd ≤ most → TI k wx → Calls Tryz.prog 48 #[p.v, .int .u64 x, .func (.func 41) #[.pointer (some ⟨g, 0, none⟩)] #[]] wx fun e w' => ∃ v, e = .returned v ∧ Sl (encS encU) (fun b => wx.heap.size ≤ b) w' v (twoL x p.Q dr t k) ∧ TI (k + dd) w' ∧ wx.grownBy w' (some g)) := Lib.hid (fun x k wx hx hk hi => by
    rw [HDD.out] at hk ⊢
    exact two_any p HT.out x t k wx hx HQ.out.1 HQ.out.2 HTP.out HT23.out hk hi)
  obtain ⟨L, hLL⟩ : ∃ y, y = l.length := ⟨_, rfl⟩
  have HLN := Lib.hid hLL
  rw [← hLL] at hL10 hl1 HMO HLX ⊢
  clear hLL
  go_loopg [10, 11, 40] L (fun gk s10 s11 s40 wx => ∃ s : Nat, s + gk = L ∧ s40 = .int .i64 s ∧ Hid (Side (encS (encS encU)) (encS (encS encU)) w2.heap.size 35 35 (fun b => w2.heap.size ≤ b) wx s10 s11 (makeFs l p.Q dr t k0 s) (makeBs l p.Q dr t k0 s) ∧ TI (k0 + s * (2 * dd)) wx ∧ w2.grownBy wx (some g)))
  case atStart => exact ⟨0, by omega, rfl, Lib.hid ⟨⟨Acc.nil _ _ _ _ _, Acc.nil _ _ _ _ _⟩, by simpa using HI2.out, World.grownBy.refl _ _⟩⟩
  case round =>
    obtain ⟨s, hsL, rfl, HXX⟩ := hrel
    have HS0 := Lib.hid HXX.out.1
    have HI3 := Lib.hid HXX.out.2.1
    have HG3 := Lib.hid HXX.out.2.2
    clear HXX
    have hp3 := (HPX.out _ HG3.out).prule
    cases gk with
    | zero =>
      have eL : L = s := by omega
      subst eL
      have hno : ¬ ((L : Int) < (L : Int)) := by omega
      obtain ⟨F, hF⟩ : ∃ y, y = makeFs l p.Q dr t k0 L := ⟨_, rfl⟩
      obtain ⟨R, hR⟩ : ∃ y, y = makeBs l p.Q dr t k0 L := ⟨_, rfl⟩
      rw [← hF, ← hR] at HS0
      have HFL : Hid (F.length = L ∧ R.length = L) := Lib.hid (by rw [hF, hR]; simp [makeFs, makeBs])
      have HSQ : Hid ((∀ M ∈ F, SqL t M) ∧ (∀ M ∈ R, SqL t M)) := Lib.hid (by rw [hF, hR]; exact ⟨makeFs_sq _ _ _ _ _ _ (by have := HT23.out; omega), makeBs_sq _ _ _ _ _ _ (by have := HT23.out; omega)⟩)
      have HFE := Lib.hid hF
      have HRE := Lib.hid hR
      obtain ⟨AF, cF, eF, _, _⟩ := HS0.out.fst.sl.form
      obtain ⟨AR, cR, eR, _, _⟩ := HS0.out.snd.sl.form
      rw [HFL.out.1] at eF
      rw [HFL.out.2] at eR
      subst eF eR
      have HMX := Lib.hid (callsIn_wide.1 <| matrix_in 6 (Nat.le_refl _) p (.slice AF L cF) (.slice AR L cR) F R TT wr HP.out (HS0.out.fst.sl.more fun _ _ _ => trivial) (HS0.out.snd.sl.more fun _ _ _ => trivial) (by rw [HFL.out.1]; omega) (by rw [HFL.out.2]; omega) (fun M hM => ⟨by rw [(HSQ.out.1 M hM).1]; have := HT23.out; omega, fun c hc => by rw [(HSQ.out.1 M hM).2 c hc]; have := HT23.out; omega⟩) (fun M hM => ⟨by rw [(HSQ.out.2 M hM).1]; have := HT23.out; omega, fun c hc => by rw [(HSQ.out.2 M hM).2 c hc]; have := HT23.out; omega⟩))
      clear hF hR HTW HLX HMO
      go_wp2_with fail
      refine HMX.out.mono ?_
      rintro e w3 ⟨vm, rfl, hsm, hgm⟩
      obtain ⟨Am, nm, cm, rfl⟩ := hsm.shape
      obtain ⟨w4, hw4⟩ : ∃ y, y = w3.alloc (Obj.cells #[.slice Am nm cm, .slice none 0 0, .slice none 0 0] 48) := ⟨_, rfl⟩
      obtain ⟨Bd, hBd⟩ : ∃ y, y = w3.heap.size := ⟨_, rfl⟩
      have HG34 : Hid (wr.grownBy w4 none) := Lib.hid (by rw [hw4]; exact hgm.trans (World.grownBy_alloc _ _ none))
      have HBD : Hid (Bk w4 Bd 48 #[.slice Am nm cm, .slice none 0 0, .slice none 0 0]) := Lib.hid (by rw [hw4, hBd]; exact Bk.new _ _ _)
      have HSZ4 : Hid (w4.heap.size = Bd + 1 ∧ wr.heap.size ≤ Bd ∧ w2.heap.size ≤ wr.heap.size) := Lib.hid (by rw [hw4, hBd, World.size_alloc]; exact ⟨rfl, hgm.size, HG3.out.size⟩)
      have HSM : Hid (Sl (encS (encS encU)) (fun b => w2.heap.size ≤ b ∧ b < Bd) w4 (.slice Am nm cm) (matI p F R)) := Lib.hid (by
        rw [hw4, hBd]
        exact (hsm.bounded.kept (World.grownBy_alloc _ _ none)).more fun b _ hb => ⟨Nat.le_trans HG3.out.size hb.1, hb.2⟩)
      have HF4 : Hid (Sl (encS (encS encU)) (fun b => b < Bd) w4 (.slice AF L cF) F) := Lib.hid ((HS0.out.fst.sl.bounded.kept HG34.out).more fun b _ hb => Nat.lt_of_lt_of_le hb.2 HSZ4.out.2.1)
      have HR4 : Hid (Sl (encS (encS encU)) (fun b => b < Bd) w4 (.slice AR L cR) R) := Lib.hid ((HS0.out.snd.sl.bounded.kept HG34.out).more fun b _ hb => Nat.lt_of_lt_of_le hb.2 HSZ4.out.2.1)
      have HI4 : Hid (TI (k0 + L * (2 * dd)) w4) := Lib.hid (HT.out.keep HI3.out HG34.out (by simp))
      have HG4 : Hid (w2.grownBy w4 (some g)) := Lib.hid (HG3.out.trans (HG34.out.but _))
      have HPD : Hid (∀ wx, w4.grownBy wx (some Bd) → Bk wx w.heap.size 24 p.cells) := Lib.hid (fun wx hg => (HPX.out _ HG4.out).grown hg (fun e => by injection e with e; have := HW2.out; have := HSZ4.out; omega))
      have HFX : Hid (∀ wx, w4.grownBy wx (some Bd) → Sl (encS (encS encU)) (fun b => b < Bd) wx (.slice AF L cF) F) := Lib.hid (fun wx hg => HF4.out.keep hg (fun b hb e => by injection e with e; omega))
      have HRX : Hid (∀ wx, w4.grownBy wx (some Bd) → Sl (encS (encS encU)) (fun b => b < Bd) wx (.slice AR L cR) R) := Lib.hid (fun wx hg => HR4.out.keep hg (fun b hb e => by injection e with e; omega))
      have HST : Hid (∃ vr vc, Bk w4 Bd 48 #[.slice Am nm cm, vr, vc] ∧ Side (encS (encS encP)) (encS (encS encP)) w4.heap.size 34 34 (fun b => w4.heap.size ≤ b) w4 vr vc ((List.range 0).map fun k : Nat => rowsP p.Q F R t ((k : Int) + 1)) ((List.range 0).map fun k : Nat => colsP p.Q F R t ((k : Int) + 1)) ∧ w4.grownBy w4 (some Bd)) := Lib.hid ⟨_, _, HBD.out, ⟨Acc.nil _ _ _ _ _, Acc.nil _ _ _ _ _⟩, World.grownBy.refl _ _⟩
      clear hsm hgm HMX HS0 HF4 HR4 HI3 HBD HG34 HPX HG3
      go_upto_region 12 with (fail)
      rw [← hw4, ← hBd]
      clear hw4 hBd hp3
      go_loopg [15] n (fun gk s15 wx => ∃ j : Nat, j + gk = n ∧ s15 = .int .u64 ((j : Int) + 1) ∧ Hid (∃ vr vc, Bk wx Bd 48 #[.slice Am nm cm, vr, vc] ∧ Side (encS (encS encP)) (encS (encS encP)) w4.heap.size 34 34 (fun b => w4.heap.size ≤ b) wx vr vc ((List.range j).map fun k : Nat => rowsP p.Q F R t ((k : Int) + 1)) ((List.range j).map fun k : Nat => colsP p.Q F R t ((k : Int) + 1)) ∧ w4.grownBy wx (some Bd)))
      case atStart => exact ⟨0, by omega, rfl, HST⟩
      case round =>
        rename World => wj
        obtain ⟨j, hjn, rfl, HDX⟩ := hrel
        obtain ⟨vr, vc, hbd, hsd, hgd⟩ := HDX.out
        have HBd := Lib.hid hbd
        have HSd := Lib.hid hsd
        have HGd := Lib.hid hgd
        clear hbd hsd hgd HDX HST
        obtain ⟨Ar1, nr1, cr1, rfl⟩ := HSd.out.fst.sl.shape
        obtain ⟨Ac1, nc1, cc1, rfl⟩ := HSd.out.snd.sl.shape
        have hwn : IntKind.u64.wrap (n : Int) = (n : Int) := IntWalk.u64_in _ (by omega)
        cases gk with
        | zero =>
          obtain rfl : j = n := by omega
          have hno2 : ¬ ((j : Int) + 1 ≤ (j : Int)) := by omega
          have HG24 : Hid (w2.grownBy wj (some g)) := Lib.hid (HG4.out.andThen HGd.out (fun b e => .inl (by injection e with e; have := HSZ4.out; omega)))
          have HR8 : Hid (Bk wj (w.heap.size + 1) 48 #[.slice none 0 0, .slice none 0 0, .slice none 0 0]) := Lib.hid (HR2.out.grown HG24.out (fun e => by injection e with e; have := HW2.out; omega))
          have c0 := HBd.out.cell 0
          have c1 := HBd.out.cell 1
          have c2 := HBd.out.cell 2
          have r0 := HR8.out.cell 0
          have r1 := HR8.out.cell 1
          have r2 := HR8.out.cell 2
          have f8 := HR8.out.free
          simp at c0 c1 c2 r0 r1 r2
          obtain ⟨wF, hwF⟩ : ∃ x, x = ((wj.setCell ⟨w.heap.size + 1, 0, none⟩ (.slice Am nm cm)).setCell ⟨w.heap.size + 1, 1, none⟩ (.slice Ar1 nr1 cr1)).setCell ⟨w.heap.size + 1, 2, none⟩ (.slice Ac1 nc1 cc1) := ⟨_, rfl⟩
          have HF8 : Hid (Bk wF (w.heap.size + 1) 48 #[.slice Am nm cm, .slice Ar1 nr1 cr1, .slice Ac1 nc1 cc1]) := Lib.hid (by rw [hwF]; exact ((HR8.out.set 0 _).set 1 _).set 2 _)
          have HGF : Hid (wj.grownBy wF (some (w.heap.size + 1))) := Lib.hid (by rw [hwF]; exact ((grownSet wj (w.heap.size + 1) 0 _).trans (grownSet _ (w.heap.size + 1) 1 _)).trans (grownSet _ (w.heap.size + 1) 2 _))
          have HFIN : Hid (Sl (encS (encS encU)) (fun b => w.heap.size ≤ b) wF (.slice Am nm cm) (matI p (makeFs l p.Q dr t k0 L) (makeBs l p.Q dr t k0 L)) ∧ Sl (encS (encS encP)) (fun b => w.heap.size ≤ b) wF (.slice Ar1 nr1 cr1) ((List.range j).map fun k : Nat => rowsP p.Q (makeFs l p.Q dr t k0 L) (makeBs l p.Q dr t k0 L) t ((k : Int) + 1)) ∧ Sl (encS (encS encP)) (fun b => w.heap.size ≤ b) wF (.slice Ac1 nc1 cc1) ((List.range j).map fun k : Nat => colsP p.Q (makeFs l p.Q dr t k0 L) (makeBs l p.Q dr t k0 L) t ((k : Int) + 1)) ∧ TI (k0 + L * (2 * dd)) wF ∧ w.grownBy wF (some g)) := Lib.hid (by
            rw [← HFE.out, ← HRE.out]
            have h2 := HW2.out
            have h4 := HSZ4.out
            refine ⟨?_, ?_, ?_, ?_, ?_⟩
            · exact ((HSM.out.keep HGd.out (fun b hb e => by injection e with e; omega)).keep HGF.out (fun b hb e => by injection e with e; omega)).more fun b _ hb => by have := hb.1; omega
            · exact (HSd.out.fst.sl.keep HGF.out (fun b hb e => by injection e with e; have := hb.1; omega)).more fun b _ hb => by have := hb.1; omega
            · exact (HSd.out.snd.sl.keep HGF.out (fun b hb e => by injection e with e; have := hb.1; omega)).more fun b _ hb => by have := hb.1; omega
            · exact HT.out.keep (HT.out.keep HI4.out HGd.out (fun b e hb => by injection e with e; have := HOB.out b hb; omega)) HGF.out (fun b e hb => by injection e with e; have := HOB.out b hb; omega)
            · exact (((HG0.out.trans HG2.out).but _).trans HG24.out).andThen HGF.out (fun b e => .inl (by injection e with e; omega)))
          clear HBd HSd HG24 HR8 HGF HSM
          go_wp2_with fail
          rw [← hwF]
          refine ⟨rfl, _, results_deal rfl _ rfl rfl HF8.out, ?_⟩
          refine ⟨_, _, _, rfl, ?_⟩
          rw [← HLN.out]
          exact HFIN.out
        | succ m =>
          have hj1 : (j : Int) + 1 ≤ (n : Int) := by omega
          have hj0 : (0 : Int) ≤ (j : Int) := Int.natCast_nonneg j
          have HIN : Hid (Side (encS encP) (encS encP) wj.heap.size 51 51 (fun b => wj.heap.size ≤ b) wj (.slice none 0 0) (.slice none 0 0) ((List.range 0).map (rowP p.Q F R t ((j : Int) + 1))) ((List.range 0).map (colP p.Q F R t ((j : Int) + 1))) ∧ wj.grownBy wj none) := Lib.hid ⟨⟨Acc.nil _ _ _ _ _, Acc.nil _ _ _ _ _⟩, World.grownBy.refl _ _⟩
          go_upto_region 16 with (fail)
          go_loopg [16, 17, 76] L (fun gk s16 s17 s76 wx => ∃ i : Nat, i + gk = L ∧ s76 = .int .i64 i ∧ Hid (Side (encS encP) (encS encP) wj.heap.size 51 51 (fun b => wj.heap.size ≤ b) wx s16 s17 ((List.range i).map (rowP p.Q F R t ((j : Int) + 1))) ((List.range i).map (colP p.Q F R t ((j : Int) + 1))) ∧ wj.grownBy wx none))
          case atStart => exact ⟨0, by omega, rfl, HIN⟩
          case round =>
            rename World => wi
            obtain ⟨i, hiL, rfl, HY⟩ := hrel
            have HSi := Lib.hid HY.out.1
            have HGi := Lib.hid HY.out.2
            clear HY HIN
            obtain ⟨A16, n16, c16, rfl⟩ := HSi.out.fst.sl.shape
            obtain ⟨A17, n17, c17, rfl⟩ := HSi.out.snd.sl.shape
            cases gk with
            | zero =>
              have eI : L = i := by omega
              subst eI
              have hno3 : ¬ ((L : Int) < (L : Int)) := by omega
              obtain ⟨y, hy⟩ : ∃ y, y = rowsP p.Q F R t ((j : Int) + 1) := ⟨_, rfl⟩
              obtain ⟨z, hz⟩ : ∃ z, z = colsP p.Q F R t ((j : Int) + 1) := ⟨_, rfl⟩
              obtain ⟨xs, hxs⟩ : ∃ xs, xs = (List.range j).map fun k : Nat => rowsP p.Q F R t ((k : Int) + 1) := ⟨_, rfl⟩
              obtain ⟨ys, hys⟩ : ∃ ys, ys = (List.range j).map fun k : Nat => colsP p.Q F R t ((k : Int) + 1) := ⟨_, rfl⟩
              have HXS : Hid ((List.range (j + 1)).map (fun k : Nat => rowsP p.Q F R t ((k : Int) + 1)) = xs ++ [y]) := Lib.hid (by rw [hsnoc, hxs, hy])
              have HYS : Hid ((List.range (j + 1)).map (fun k : Nat => colsP p.Q F R t ((k : Int) + 1)) = ys ++ [z]) := Lib.hid (by rw [hsnoc, hys, hz])
              have HGw : Hid (wj.grownBy wi.drew none) := Lib.hid (HGi.out.trans (grown_drewN' wi 1))
              obtain ⟨hi, hhi⟩ : ∃ y, y = wi.drew.heap.size := ⟨_, rfl⟩
              have HR1 : Hid ((encS (encS encP)).rep (fun b => wj.heap.size ≤ b ∧ b < hi) wi.drew [.slice A16 n16 c16] y) := Lib.hid ⟨_, rfl, by
                rw [hy]
                unfold rowsP
                rw [HFL.out.1, hhi]
                exact ((HSi.out.fst.sl.kept (grown_drewN' wi 1)).bounded).more fun b _ hb => ⟨hb.1.1, hb.2⟩⟩
              have HR2' : Hid ((encS (encS encP)).rep (fun b => wj.heap.size ≤ b ∧ b < hi) wi.drew [.slice A17 n17 c17] z) := Lib.hid ⟨_, rfl, by
                rw [hz]
                unfold colsP
                rw [HFL.out.1, hhi]
                exact ((HSi.out.snd.sl.kept (grown_drewN' wi 1)).bounded).more fun b _ hb => ⟨hb.1.1, hb.2⟩⟩
              have HWL : Hid (∀ b, (Value.slice Ar1 nr1 cr1).ownBlock = some b → b < wj.heap.size) := Lib.hid (fun b e => (HSd.out.fst.lt b e).2)
              have HBL : Hid (∀ b, (Value.slice Ac1 nc1 cc1).ownBlock = some b → b < wj.heap.size) := Lib.hid (fun b e => (HSd.out.snd.lt b e).2)
              have HD4 : Hid (Bd < w4.heap.size ∧ w4.heap.size ≤ wj.heap.size) := Lib.hid ⟨by have := HSZ4.out; omega, HGd.out.size⟩
              rw [← hxs, ← hys] at HSd
              have HC0 : Hid ((twLt (encS (encS encP)) 48 34 w4 Bd wj.heap.size hi #[.slice Am nm cm, .slice Ar1 nr1 cr1, .slice Ac1 nc1 cc1] (.slice Ar1 nr1 cr1) (.slice Ac1 nc1 cc1) (.slice A16 n16 c16) (.slice A17 n17 c17) xs ys y z).C [] wi.drew) := Lib.hid ⟨HGd.out.trans (HGw.out.but _), HBd.out.grown HGw.out (by simp), by rw [hhi]; exact Nat.le_refl _, HR1.out, HR2'.out, HSd.out.kept HGw.out⟩
              have HLD : Hid (∀ vs W, (twLt (encS (encS encP)) 48 34 w4 Bd wj.heap.size hi #[.slice Am nm cm, .slice Ar1 nr1 cr1, .slice Ac1 nc1 cc1] (.slice Ar1 nr1 cr1) (.slice Ac1 nc1 cc1) (.slice A16 n16 c16) (.slice A17 n17 c17) xs ys y z).C vs W → W.cell? ⟨Bd, 1, none⟩ = some (.slice Ar1 nr1 cr1) ∧ W.cell? ⟨Bd, 2, none⟩ = some (.slice Ac1 nc1 cc1)) := Lib.hid (fun vs W hC => ⟨hC.2.1.cell 1, hC.2.1.cell 2⟩)
              have HSZ : Hid (∀ vs W, (twLt (encS (encS encP)) 48 34 w4 Bd wj.heap.size hi #[.slice Am nm cm, .slice Ar1 nr1 cr1, .slice Ac1 nc1 cc1] (.slice Ar1 nr1 cr1) (.slice Ac1 nc1 cc1) (.slice A16 n16 c16) (.slice A17 n17 c17) xs ys y z).C vs W → wj.heap.size ≤ W.heap.size) := Lib.hid (fun vs W hC => Nat.le_trans (by rw [hhi]; exact HGw.out.size) hC.2.2.1)
              have HLX1 : Hid ((xs.length + 1) * 24 ≤ 140737488355328) := Lib.hid (by rw [hxs]; simp; omega)
              have HLX2 : Hid ((ys.length + 1) * 24 ≤ 140737488355328) := Lib.hid (by rw [hys]; simp; omega)
              clear hy hz hxs hys hhi HR1 HR2' HSi HBd
              go_upto_region 21 with (fail)
              refine wp_region_late (twLt (encS (encS encP)) 48 34 w4 Bd wj.heap.size hi #[.slice Am nm cm, .slice Ar1 nr1 cr1, .slice Ac1 nc1 cc1] (.slice Ar1 nr1 cr1) (.slice Ac1 nc1 cc1) (.slice A16 n16 c16) (.slice A17 n17 c17) xs ys y z) [4, 9] 11 (by kernel_rfl) (by kernel_rfl) (by kernel_rfl) HC0.out ?_
              -- op 0 (slot 120): fieldAddr
              refine LateR.mono (Qv.eq (.pointer (some ⟨Bd, 1, none⟩))) [] (by kernel_rfl) (by rfl) rfl (fun vs w' hC => ?_) ?_
              · refine askl_do rfl fun K hK => ?_
                go_simp
                exact hK _ _ rfl ⟨rfl, World.grownBy.refl _ none⟩
              -- op 1 (slot 121): load
              refine LateR.mono (Qv.eq (.slice Ar1 nr1 cr1)) [(0, 120)] (by kernel_rfl) (by rfl) rfl (fun vs w' hC => ?_) ?_
              · rintro _ rfl
                refine askl_do rfl fun K hK => ?_
                obtain ⟨q0, q1⟩ := HLD.out vs w' hC
                go_simp
                exact hK _ _ rfl ⟨rfl, World.grownBy.refl _ none⟩
              -- op 2 (slot 122): move
              refine LateR.mono (Qv.eq (.slice A16 n16 c16)) [] (by kernel_rfl) (by rfl) rfl (fun vs w' hC => ?_) ?_
              · refine askl_do rfl fun K hK => ?_
                go_simp
                exact hK _ _ rfl ⟨rfl, World.grownBy.refl _ none⟩
              -- op 3 (slot 123): buildSlice
              refine LateR.mono (twQ HWL.out HBL.out 34 (.slice A16 n16 c16)) [(2, 122)] (by kernel_rfl) (by rfl) rfl (fun vs w' hC => ?_) ?_
              · rintro _ rfl
                refine askl_do rfl fun K hK => ?_
                have hsz := HSZ.out vs w' hC
                go_simp
                exact hK _ _ rfl ⟨⟨_, rfl, hsz, Bk.new w' _ _⟩, World.grownBy_alloc w' _ none⟩
              -- op 4 (slot 124): call
              refine LateR.turn 0 [(1, 121), (3, 123)] (by kernel_rfl) rfl (fun vs w' hl hC => ?_) ?_
              · rintro _ rfl
                intro x123 h123
                have h123 : BlkQ wj.heap.size 34 (.slice A16 n16 c16) x123 w' := h123
                obtain ⟨b123, e123, hb123, hk123⟩ := h123
                subst e123
                refine askl_do rfl fun K hK => ?_
                obtain rfl : vs = [] := List.eq_nil_of_length_eq_zero hl
                have hsz := HSZ.out _ w' hC
                have hS1 : Side (encS (encS encP)) (encS (encS encP)) w4.heap.size 34 34 (fun b => w4.heap.size ≤ b) w' (.slice Ar1 nr1 cr1) (.slice Ac1 nc1 cc1) xs ys := hC.2.2.2.2.2
                refine pushAt_core (E := encS (encS encP)) (y := y) el_pairs2 hS1.fst (twLt_rep1 hC HWL.out HBL.out HD4.out.2) (Bk.one hk123) HLX1.out (Nat.le_trans HD4.out.2 hsz) (hS1.new1 (fun b hb => Nat.le_trans HD4.out.2 (Nat.le_trans hsz hb))) (.tmp 121) (.tmp 123) rfl rfl rfl ?_
                intro v3 w3 ha hgr hm
                exact hK _ _ rfl ⟨hgr, twLt_one hC ha hgr hm HWL.out HD4.out.1⟩
              -- op 5 (slot 125): fieldAddr
              refine LateR.mono (Qv.eq (.pointer (some ⟨Bd, 2, none⟩))) [] (by kernel_rfl) (by rfl) rfl (fun vs w' hC => ?_) ?_
              · refine askl_do rfl fun K hK => ?_
                go_simp
                exact hK _ _ rfl ⟨rfl, World.grownBy.refl _ none⟩
              -- op 6 (slot 126): load
              refine LateR.mono (Qv.eq (.slice Ac1 nc1 cc1)) [(5, 125)] (by kernel_rfl) (by rfl) rfl (fun vs w' hC => ?_) ?_
              · rintro _ rfl
                refine askl_do rfl fun K hK => ?_
                obtain ⟨q0, q1⟩ := HLD.out vs w' hC
                go_simp
                exact hK _ _ rfl ⟨rfl, World.grownBy.refl _ none⟩
              -- op 7 (slot 127): move
              refine LateR.mono (Qv.eq (.slice A17 n17 c17)) [] (by kernel_rfl) (by rfl) rfl (fun vs w' hC => ?_) ?_
              · refine askl_do rfl fun K hK => ?_
                go_simp
                exact hK _ _ rfl ⟨rfl, World.grownBy.refl _ none⟩
              -- op 8 (slot 128): buildSlice
              refine LateR.mono (twQ HWL.out HBL.out 34 (.slice A17 n17 c17)) [(7, 127)] (by kernel_rfl) (by rfl) rfl (fun vs w' hC => ?_) ?_
              · rintro _ rfl
                refine askl_do rfl fun K hK => ?_
                have hsz := HSZ.out vs w' hC
                go_simp
                exact hK _ _ rfl ⟨⟨_, rfl, hsz, Bk.new w' _ _⟩, World.grownBy_alloc w' _ none⟩
              -- op 9 (slot 129): call
              refine LateR.turn 1 [(6, 126), (8, 128)] (by kernel_rfl) rfl (fun vs w' hl hC => ?_) ?_
              · rintro _ rfl
                intro x128 h128
                have h128 : BlkQ wj.heap.size 34 (.slice A17 n17 c17) x128 w' := h128
                obtain ⟨b128, e128, hb128, hk128⟩ := h128
                subst e128
                refine askl_do rfl fun K hK => ?_
                obtain ⟨u, rfl⟩ : ∃ u, vs = [u] := List.length_eq_one_iff.1 hl
                have hsz := HSZ.out _ w' hC
                have hS1 : Side (encS (encS encP)) (encS (encS encP)) w4.heap.size 34 34 (fun b => w4.heap.size ≤ b) w' u (.slice Ac1 nc1 cc1) _ _ := hC.2.2.2.2.2.1
                refine pushAt_core (E := encS (encS encP)) (y := z) el_pairs2 hS1.snd (twLt_rep2 hC HBL.out HD4.out.2) (Bk.one hk128) HLX2.out (Nat.le_trans HD4.out.2 hsz) (hS1.new2 (fun b hb => Nat.le_trans HD4.out.2 (Nat.le_trans hsz hb))) (.tmp 126) (.tmp 128) rfl rfl rfl ?_
                intro v3 w3 ha hgr hm
                exact hK _ _ rfl ⟨hgr, twLt_two hC ha hgr hm HBL.out HD4.out.1⟩
              -- op 10 (slot 130): fieldAddr
              refine LateR.mono (Qv.eq (.pointer (some ⟨Bd, 1, none⟩))) [] (by kernel_rfl) (by rfl) rfl (fun vs w' hC => ?_) ?_
              · refine askl_do rfl fun K hK => ?_
                go_simp
                exact hK _ _ rfl ⟨rfl, World.grownBy.refl _ none⟩
              intro vs w5 hvl hC5
              obtain ⟨u, u2, rfl⟩ : ∃ u u2, vs = [u, u2] := by
                match vs, hvl with
                | [u, u2], _ => exact ⟨u, u2, rfl⟩
              intro y0 k0 y1 k1 y2 k2 y3 k3 y4 k4 y5 k5 y6 k6 y7 k7 y8 k8 y9 k9 y10 k10
              show wpList Tryz.prog _ _ _ _ w5
              simp only [Act.put, List.setIfInBounds_toArray, List.set_cons_zero, List.set_cons_succ]
              have e4 : y4 = u := by have : some u = some y4 := k4; injection this with this; exact this.symm
              have e9 : y9 = u2 := by have : some u2 = some y9 := k9; injection this with this; exact this.symm
              have e10 : y10 = .pointer (some ⟨Bd, 1, none⟩) := k10
              subst e4 e9 e10
              have HE5 := Lib.hid (twLt_end hC5 HD4.out.1)
              have hS5 : Side (encS (encS encP)) (encS (encS encP)) w4.heap.size 34 34 (fun b => w4.heap.size ≤ b) w5 y4 y9 _ _ := hC5.2.2.2.2.2
              obtain ⟨Au, nu, cu, rfl⟩ := hS5.fst.sl.shape
              obtain ⟨Av, nv, cv, rfl⟩ := hS5.snd.sl.shape
              have d0 := hC5.2.1.cell 0
              have d1 := hC5.2.1.cell 1
              have d2 := hC5.2.1.cell 2
              have fd := hC5.2.1.free
              simp at d0 d1 d2
              have HFIN : Hid (∃ vr vc, Bk ((w5.setCell ⟨Bd, 1, none⟩ (.slice Au nu cu)).setCell ⟨Bd, 2, none⟩ (.slice Av nv cv)) Bd 48 #[.slice Am nm cm, vr, vc] ∧ Side (encS (encS encP)) (encS (encS encP)) w4.heap.size 34 34 (fun b => w4.heap.size ≤ b) ((w5.setCell ⟨Bd, 1, none⟩ (.slice Au nu cu)).setCell ⟨Bd, 2, none⟩ (.slice Av nv cv)) vr vc ((List.range (j + 1)).map fun k : Nat => rowsP p.Q F R t ((k : Int) + 1)) ((List.range (j + 1)).map fun k : Nat => colsP p.Q F R t ((k : Int) + 1)) ∧ w4.grownBy ((w5.setCell ⟨Bd, 1, none⟩ (.slice Au nu cu)).setCell ⟨Bd, 2, none⟩ (.slice Av nv cv)) (some Bd)) := Lib.hid (by
                rw [HXS.out, HYS.out]
                exact ⟨_, _, HE5.out⟩)
              clear hC5 hS5 HE5 k0 k1 k2 k3 k4 k5 k6 k7 k8 k9 k10 HLD HSZ HC0 HSd
              have hwj : IntKind.u64.wrap ((j : Int) + 1 + 1) = (j : Int) + 1 + 1 := IntWalk.u64_in _ (by omega)
              go_wp2_with fail
              go_roundg m
              case measure => omega
              case rel => exact ⟨j + 1, by omega, by go_num, HFIN⟩
            | succ q =>
              have hiI : (i : Int) < (L : Int) := by omega
              have hi0 : (0 : Int) ≤ (i : Int) := Int.natCast_nonneg i
              have hiF : i < F.length := by rw [HFL.out.1]; omega
              have hiR : i < R.length := by rw [HFL.out.2]; omega
              obtain ⟨gF, oF, cF', uF, eF, q1, q2, hcF, hslF⟩ := (HFX.out _ HGd.out).atS hiF
              clear q1 q2
              injection eF with eF1 eF2 eF3
              clear eF2
              subst eF1 eF3
              obtain ⟨gR, oR, cR', uR, eR, q1, q2, hcR, hslR⟩ := (HRX.out _ HGd.out).atS hiR
              clear q1 q2
              injection eR with eR1 eR2 eR3
              clear eR2
              subst eR1 eR3
              obtain ⟨Af, cf, ef, q1, q2⟩ := hslF.form
              clear q1 q2
              obtain ⟨Ab, cb, eb, q1, q2⟩ := hslR.form
              clear q1 q2
              have HS1 : Hid (SqL t F[i]) := Lib.hid (HSQ.out.1 _ (List.getElem_mem hiF))
              have HS2 : Hid (SqL t R[i]) := Lib.hid (HSQ.out.2 _ (List.getElem_mem hiR))
              rw [HS1.out.1] at ef
              rw [HS2.out.1] at eb
              subst ef eb
              have HN16 : Hid ((List.range (i + 1)).map (rowP p.Q F R t ((j : Int) + 1)) = (List.range i).map (rowP p.Q F R t ((j : Int) + 1)) ++ [zipP (rowI p.Q F[i] ((j : Int) + 1)) (rowI p.Q R[i] ((j : Int) + 1)) t]) := Lib.hid (by
                rw [hsnoc]
                unfold rowP
                rw [List.getElem?_eq_getElem hiF, List.getElem?_eq_getElem hiR]
                rfl)
              have HN17 : Hid ((List.range (i + 1)).map (colP p.Q F R t ((j : Int) + 1)) = (List.range i).map (colP p.Q F R t ((j : Int) + 1)) ++ [zipP (colV p.Q F[i] ((j : Int) + 1)) (colV p.Q R[i] ((j : Int) + 1)) t]) := Lib.hid (by
                rw [hsnoc]
                unfold colP
                rw [List.getElem?_eq_getElem hiF, List.getElem?_eq_getElem hiR]
                rfl)
              have HUX : Hid (U64 ((j : Int) + 1)) := Lib.hid ⟨by omega, by omega⟩
              have HT100 : Hid (t ≤ 3) := Lib.hid (by have := HT23.out; omega)
              have HRo1 : Hid (∀ W, wj.grownBy W none → Calls Tryz.prog 51 #[.slice Af t cf, .int .u64 ((j : Int) + 1), .int .u64 p.Q] W (Gives encU (fun b => W.heap.size ≤ b) W (rowI p.Q F[i] ((j : Int) + 1)))) := Lib.hid (fun W hW => callsIn_wide.1 (row_in 6 (Nat.le_refl _) _ _ _ _ _ W (hslF.kept hW) HUX.out (by rw [HS1.out.1]; have := HT100.out; omega) (fun c hc => by rw [HS1.out.2 c hc]; have := HT100.out; omega)))
              have HRo2 : Hid (∀ W, wj.grownBy W none → Calls Tryz.prog 51 #[.slice Ab t cb, .int .u64 ((j : Int) + 1), .int .u64 p.Q] W (Gives encU (fun b => W.heap.size ≤ b) W (rowI p.Q R[i] ((j : Int) + 1)))) := Lib.hid (fun W hW => callsIn_wide.1 (row_in 6 (Nat.le_refl _) _ _ _ _ _ W (hslR.kept hW) HUX.out (by rw [HS2.out.1]; have := HT100.out; omega) (fun c hc => by rw [HS2.out.2 c hc]; have := HT100.out; omega)))
              have HCo1 : Hid (∀ W, wj.grownBy W none → Calls Tryz.prog 52 #[.slice Af t cf, .int .u64 ((j : Int) + 1), .int .u64 p.Q] W (Gives encU (fun b => W.heap.size ≤ b) W (colV p.Q F[i] ((j : Int) + 1)))) := Lib.hid (fun W hW => col_any _ _ _ _ _ W (hslF.kept hW) HUX.out (by rw [HS1.out.1]; have := HT100.out; omega))
              have HCo2 : Hid (∀ W, wj.grownBy W none → Calls Tryz.prog 52 #[.slice Ab t cb, .int .u64 ((j : Int) + 1), .int .u64 p.Q] W (Gives encU (fun b => W.heap.size ≤ b) W (colV p.Q R[i] ((j : Int) + 1)))) := Lib.hid (fun W hW => col_any _ _ _ _ _ W (hslR.kept hW) HUX.out (by rw [HS2.out.1]; have := HT100.out; omega))
              obtain ⟨a1, ha1⟩ : ∃ y, y = rowI p.Q F[i] ((j : Int) + 1) := ⟨_, rfl⟩
              obtain ⟨a2, ha2⟩ : ∃ y, y = rowI p.Q R[i] ((j : Int) + 1) := ⟨_, rfl⟩
              obtain ⟨b1, hb1⟩ : ∃ y, y = colV p.Q F[i] ((j : Int) + 1) := ⟨_, rfl⟩
              obtain ⟨b2, hb2⟩ : ∃ y, y = colV p.Q R[i] ((j : Int) + 1) := ⟨_, rfl⟩
              have HL1 : Hid (a1.length = t ∧ a2.length = t ∧ b1.length = t ∧ b2.length = t) := Lib.hid ⟨by rw [ha1]; exact rowI_sqL HS1.out _ _, by rw [ha2]; exact rowI_sqL HS2.out _ _, by rw [hb1]; exact colV_sqL HS1.out _ _, by rw [hb2]; exact colV_sqL HS2.out _ _⟩
              rw [← ha1] at HRo1 HN16
              rw [← ha2] at HRo2 HN16
              rw [← hb1] at HCo1 HN17
              rw [← hb2] at HCo2 HN17
              obtain ⟨yr, hyr⟩ : ∃ y, y = zipP a1 a2 t := ⟨_, rfl⟩
              obtain ⟨yc, hyc⟩ : ∃ y, y = zipP b1 b2 t := ⟨_, rfl⟩
              have HPr : Hid (∀ v1 v2 W, Sl encU TT W v1 a1 → Sl encU TT W v2 a2 → Calls Tryz.prog 50 #[v1, v2] W (Gives encP (fun b => W.heap.size ≤ b) W yr)) := Lib.hid (fun v1 v2 W h1 h2 => by rw [hyr]; exact dpairs2_any v1 v2 a1 a2 t TT TT W h1 h2 HL1.out.1 HL1.out.2.1 (by have := HT100.out; omega))
              have HPc : Hid (∀ v1 v2 W, Sl encU TT W v1 b1 → Sl encU TT W v2 b2 → Calls Tryz.prog 50 #[v1, v2] W (Gives encP (fun b => W.heap.size ≤ b) W yc)) := Lib.hid (fun v1 v2 W h1 h2 => by rw [hyc]; exact dpairs2_any v1 v2 b1 b2 t TT TT W h1 h2 HL1.out.2.2.1 HL1.out.2.2.2 (by have := HT100.out; omega))
              rw [← hyr] at HN16
              rw [← hyc] at HN17
              have hbp := HPD.out _ HGd.out
              have HLD : Hid (∀ W, wj.grownBy W none → W.cell? ⟨w.heap.size, 1, none⟩ = some (.int .u64 p.Q) ∧ W.cell? ⟨gF, oF + i, none⟩ = some (.slice Af t cf) ∧ W.cell? ⟨gR, oR + i, none⟩ = some (.slice Ab t cb)) := Lib.hid (fun W hW => ⟨(hbp.grown hW (by simp)).cell 1, cellK hcF hW (by simp), cellK hcR hW (by simp)⟩)
              have HLN16 : Hid ((((List.range i).map (rowP p.Q F R t ((j : Int) + 1))).length + 1) * 24 ≤ 140737488355328) := Lib.hid (by simp; omega)
              have HLN17 : Hid ((((List.range i).map (colP p.Q F R t ((j : Int) + 1))).length + 1) * 24 ≤ 140737488355328) := Lib.hid (by simp; omega)
              have HGw : Hid (wj.grownBy wi.drew none) := Lib.hid (HGi.out.trans (grown_drewN' wi 1))
              have HSw := Lib.hid (HSi.out.kept (grown_drewN' wi 1))
              obtain ⟨N1, hN1⟩ : ∃ y, y = wi.drew.heap.size := ⟨_, rfl⟩
              have HN1 : Hid (N1 = wi.drew.heap.size) := Lib.hid hN1
              clear ha1 ha2 hb1 hb2 hyr hyc hbp hcF hcR hslF hslR hN1 HSi HGi HS1 HS2
              clear hiF hiR
              go_upto_region 18 with (fail)
              refine wp_region_mono 19 (by kernel_rfl) (by kernel_rfl) ?_
              -- op 0 (slot 79): move
              refine MonoR.step (Pv.eq (.slice A16 n16 c16)) [] (by kernel_rfl) (fun w' hw' => ?_) ?_
              · refine ask_do rfl fun K hK => ?_
                go_simp
                exact hK _ _ rfl rfl (World.grownBy.refl _ none)
              -- op 1 (slot 80): move
              refine MonoR.step (Pv.eq (.slice (some ⟨gF, oF, none⟩) L cF)) [] (by kernel_rfl) (fun w' hw' => ?_) ?_
              · refine ask_do rfl fun K hK => ?_
                go_simp
                exact hK _ _ rfl rfl (World.grownBy.refl _ none)
              -- op 2 (slot 81): move
              refine MonoR.step (Pv.eq (.int .i64 (i : Int))) [] (by kernel_rfl) (fun w' hw' => ?_) ?_
              · refine ask_do rfl fun K hK => ?_
                go_simp
                exact hK _ _ rfl rfl (World.grownBy.refl _ none)
              -- op 3 (slot 82): indexAddr
              refine MonoR.step (Pv.eq (.pointer (some ⟨gF, oF + i, none⟩))) [(1, 80), (2, 81)] (by kernel_rfl) (fun w' hw' => ?_) ?_
              · rintro _ rfl
                rintro _ rfl
                refine ask_do rfl fun K hK => ?_
                go_simp
                exact hK _ _ rfl rfl (World.grownBy.refl _ none)
              -- op 4 (slot 83): load
              refine MonoR.step (Pv.eq (.slice Af t cf)) [(3, 82)] (by kernel_rfl) (fun w' hw' => ?_) ?_
              · rintro _ rfl
                refine ask_do rfl fun K hK => ?_
                obtain ⟨q0, q1, q2⟩ := HLD.out w' (HGw.out.trans hw')
                go_simp
                exact hK _ _ rfl rfl (World.grownBy.refl _ none)
              -- op 5 (slot 84): move
              refine MonoR.step (Pv.eq (.int .u64 ((j : Int) + 1))) [] (by kernel_rfl) (fun w' hw' => ?_) ?_
              · refine ask_do rfl fun K hK => ?_
                go_simp
                exact hK _ _ rfl rfl (World.grownBy.refl _ none)
              -- op 6 (slot 85): fieldAddr
              refine MonoR.step (Pv.eq (.pointer (some ⟨w.heap.size, 1, none⟩))) [] (by kernel_rfl) (fun w' hw' => ?_) ?_
              · refine ask_do rfl fun K hK => ?_
                go_simp
                exact hK _ _ rfl rfl (World.grownBy.refl _ none)
              -- op 7 (slot 86): load
              refine MonoR.step (Pv.eq (.int .u64 p.Q)) [(6, 85)] (by kernel_rfl) (fun w' hw' => ?_) ?_
              · rintro _ rfl
                refine ask_do rfl fun K hK => ?_
                obtain ⟨q0, q1, q2⟩ := HLD.out w' (HGw.out.trans hw')
                go_simp
                exact hK _ _ rfl rfl (World.grownBy.refl _ none)
              -- op 8 (slot 87): call
              refine MonoR.step (slU a1) [(4, 83), (5, 84), (7, 86)] (by kernel_rfl) (fun w' hw' => ?_) ?_
              · rintro _ rfl
                rintro _ rfl
                rintro _ rfl
                refine ask_do rfl fun K hK => ?_
                go_simp
                refine (HRo1.out w' (HGw.out.trans hw')).mono ?_
                rintro e w3 ⟨v3, rfl, hs3, hg3⟩
                exact hK _ _ rfl (hs3.more fun _ _ _ => trivial) hg3
              -- op 9 (slot 88): move
              refine MonoR.step (Pv.eq (.slice (some ⟨gR, oR, none⟩) L cR)) [] (by kernel_rfl) (fun w' hw' => ?_) ?_
              · refine ask_do rfl fun K hK => ?_
                go_simp
                exact hK _ _ rfl rfl (World.grownBy.refl _ none)
              -- op 10 (slot 89): move
              refine MonoR.step (Pv.eq (.int .i64 (i : Int))) [] (by kernel_rfl) (fun w' hw' => ?_) ?_
              · refine ask_do rfl fun K hK => ?_
                go_simp
                exact hK _ _ rfl rfl (World.grownBy.refl _ none)
              -- op 11 (slot 90): indexAddr
              refine MonoR.step (Pv.eq (.pointer (some ⟨gR, oR + i, none⟩))) [(9, 88), (10, 89)] (by kernel_rfl) (fun w' hw' => ?_) ?_
              · rintro _ rfl
                rintro _ rfl
                refine ask_do rfl fun K hK => ?_
                go_simp
                exact hK _ _ rfl rfl (World.grownBy.refl _ none)
              -- op 12 (slot 91): load
              refine MonoR.step (Pv.eq (.slice Ab t cb)) [(11, 90)] (by kernel_rfl) (fun w' hw' => ?_) ?_
              · rintro _ rfl
                refine ask_do rfl fun K hK => ?_
                obtain ⟨q0, q1, q2⟩ := HLD.out w' (HGw.out.trans hw')
                go_simp
                exact hK _ _ rfl rfl (World.grownBy.refl _ none)
              -- op 13 (slot 92): move
              refine MonoR.step (Pv.eq (.int .u64 ((j : Int) + 1))) [] (by kernel_rfl) (fun w' hw' => ?_) ?_
              · refine ask_do rfl fun K hK => ?_
                go_simp
                exact hK _ _ rfl rfl (World.grownBy.refl _ none)
              -- op 14 (slot 93): fieldAddr
              refine MonoR.step (Pv.eq (.pointer (some ⟨w.heap.size, 1, none⟩))) [] (by kernel_rfl) (fun w' hw' => ?_) ?_
              · refine ask_do rfl fun K hK => ?_
                go_simp
                exact hK _ _ rfl rfl (World.grownBy.refl _ none)
              -- op 15 (slot 94): load
              refine MonoR.step (Pv.eq (.int .u64 p.Q)) [(14, 93)] (by kernel_rfl) (fun w' hw' => ?_) ?_
              · rintro _ rfl
                refine ask_do rfl fun K hK => ?_
                obtain ⟨q0, q1, q2⟩ := HLD.out w' (HGw.out.trans hw')
                go_simp
                exact hK _ _ rfl rfl (World.grownBy.refl _ none)
              -- op 16 (slot 95): call
              refine MonoR.step (slU a2) [(12, 91), (13, 92), (15, 94)] (by kernel_rfl) (fun w' hw' => ?_) ?_
              · rintro _ rfl
                rintro _ rfl
                rintro _ rfl
                refine ask_do rfl fun K hK => ?_
                go_simp
                refine (HRo2.out w' (HGw.out.trans hw')).mono ?_
                rintro e w3 ⟨v3, rfl, hs3, hg3⟩
                exact hK _ _ rfl (hs3.more fun _ _ _ => trivial) hg3
              -- op 17 (slot 96): call
              refine MonoR.step (slP N1 yr) [(8, 87), (16, 95)] (by kernel_rfl) (fun w' hw' => ?_) ?_
              · intro x87 h87
                have h87 : Sl encU TT w' x87 a1 := h87
                obtain ⟨A87, c87, e87, k87, l87⟩ := h87.form
                subst e87
                intro x95 h95
                have h95 : Sl encU TT w' x95 a2 := h95
                obtain ⟨A95, c95, e95, k95, l95⟩ := h95.form
                subst e95
                refine ask_do rfl fun K hK => ?_
                go_simp
                refine (HPr.out _ _ w' h87 h95).mono ?_
                rintro e w3 ⟨v3, rfl, hs3, hg3⟩
                exact hK _ _ rfl (hs3.more fun b _ hb => Nat.le_trans (by rw [HN1.out]; exact hw'.size) hb) hg3
              -- op 18 (slot 97): buildSlice
              refine MonoR.step (blkP N1 yr) [(17, 96)] (by kernel_rfl) (fun w' hw' => ?_) ?_
              · intro x96 h96
                have h96 : Sl encP (fun b => N1 ≤ b) w' x96 yr := h96
                obtain ⟨A96, c96, e96, k96, l96⟩ := h96.form
                subst e96
                refine ask_do rfl fun K hK => ?_
                go_simp
                exact hK _ _ rfl ⟨_, _, _, _, rfl, Bk.new w' _ _, h96.kept (World.grownBy_alloc w' _ none)⟩ (World.grownBy_alloc w' _ none)
              
              intro w5 hw5
              intro y0 k0 y1 k1 y2 k2 y3 k3 y4 k4 y5 k5 y6 k6 y7 k7 y8 k8 y9 k9 y10 k10 y11 k11 y12 k12 y13 k13 y14 k14 y15 k15 y16 k16 y17 k17 y18 k18
              show wpList Tryz.prog _ _ _ _ w5
              simp only [Act.put, List.setIfInBounds_toArray, List.set_cons_zero, List.set_cons_succ]
              have e0 : y0 = .slice A16 n16 c16 := k0
              subst e0
              have k18' : ∃ A n c b, y18 = .slice (some ⟨b, 0, none⟩) 1 1 ∧ Bk w5 b 51 #[.slice A n c] ∧ Sl encP (fun b => N1 ≤ b) w5 (.slice A n c) yr := k18
              obtain ⟨Ay, ny, cy, by', ey, hky, hsy⟩ := k18'
              subst ey
              have HS5 := Lib.hid (HSw.out.kept hw5)
              have HG5 : Hid (wj.grownBy w5 none) := Lib.hid (HGw.out.trans hw5)
              have HZ5 : Hid (wj.heap.size ≤ w5.heap.size) := Lib.hid HG5.out.size
              have HKY := Lib.hid hky
              have HREP : Hid ((encS encP).rep (fun b => (wj.heap.size ≤ b ∧ some b ≠ (Value.slice A17 n17 c17).ownBlock) ∧ some b ≠ (Value.slice A16 n16 c16).ownBlock) w5 [.slice Ay ny cy] yr) := Lib.hid ⟨_, rfl, hsy.more fun b _ hb => by
                rw [HN1.out] at hb
                exact ⟨⟨Nat.le_trans HGw.out.size hb, fun e => absurd hb (Nat.not_le_of_lt (HSw.out.snd.lt b e.symm).2)⟩, fun e => absurd hb (Nat.not_le_of_lt (HSw.out.fst.lt b e.symm).2)⟩⟩
              clear hky hsy k0 k1 k2 k3 k4 k5 k6 k7 k8 k9 k10 k11 k12 k13 k14 k15 k16 k17 k18 hw5 HSw HGw HN1
              refine wpList_plain rfl fun K hK => ?_
              refine pushAt_core (E := encS encP) (y := yr) el_pairs HS5.out.fst HREP.out (Bk.one HKY.out) HLN16.out HZ5.out (HS5.out.new1 (fun _ h => Nat.le_trans HZ5.out h)) (.tmp 79) (.tmp 97) rfl rfl rfl ?_
              intro v6 w6 ha hgr hm
              refine hK _ _ ?_
              clear hK
              have HS6 := Lib.hid ((HS5.out.one ha hgr hm).kept (grown_drewN' w6 1))
              have HG6 : Hid (wj.grownBy w6.drew none) := Lib.hid ((grown_up HG5.out hgr (fun b e => (HS5.out.fst.lt b e).1)).trans (grown_drewN' w6 1))
              rw [← HN16.out] at HS6
              obtain ⟨A18, n18, c18, rfl⟩ := HS6.out.fst.sl.shape
              clear ha hgr hm HS5 HG5 HREP HKY HZ5 HN16
              obtain ⟨N2, hN2⟩ : ∃ y, y = w6.drew.heap.size := ⟨_, rfl⟩
              have HN2 : Hid (N2 = w6.drew.heap.size) := Lib.hid hN2
              clear hN2
              go_upto_region 19 with (fail)
              refine wp_region_mono 19 (by kernel_rfl) (by kernel_rfl) ?_
              -- op 0 (slot 99): move
              refine MonoR.step (Pv.eq (.slice A17 n17 c17)) [] (by kernel_rfl) (fun w' hw' => ?_) ?_
              · refine ask_do rfl fun K hK => ?_
                go_simp
                exact hK _ _ rfl rfl (World.grownBy.refl _ none)
              -- op 1 (slot 100): move
              refine MonoR.step (Pv.eq (.slice (some ⟨gF, oF, none⟩) L cF)) [] (by kernel_rfl) (fun w' hw' => ?_) ?_
              · refine ask_do rfl fun K hK => ?_
                go_simp
                exact hK _ _ rfl rfl (World.grownBy.refl _ none)
              -- op 2 (slot 101): move
              refine MonoR.step (Pv.eq (.int .i64 (i : Int))) [] (by kernel_rfl) (fun w' hw' => ?_) ?_
              · refine ask_do rfl fun K hK => ?_
                go_simp
                exact hK _ _ rfl rfl (World.grownBy.refl _ none)
              -- op 3 (slot 102): indexAddr
              refine MonoR.step (Pv.eq (.pointer (some ⟨gF, oF + i, none⟩))) [(1, 100), (2, 101)] (by kernel_rfl) (fun w' hw' => ?_) ?_
              · rintro _ rfl
                rintro _ rfl
                refine ask_do rfl fun K hK => ?_
                go_simp
                exact hK _ _ rfl rfl (World.grownBy.refl _ none)
              -- op 4 (slot 103): load
              refine MonoR.step (Pv.eq (.slice Af t cf)) [(3, 102)] (by kernel_rfl) (fun w' hw' => ?_) ?_
              · rintro _ rfl
                refine ask_do rfl fun K hK => ?_
                obtain ⟨q0, q1, q2⟩ := HLD.out w' (HG6.out.trans hw')
                go_simp
                exact hK _ _ rfl rfl (World.grownBy.refl _ none)
              -- op 5 (slot 104): move
              refine MonoR.step (Pv.eq (.int .u64 ((j : Int) + 1))) [] (by kernel_rfl) (fun w' hw' => ?_) ?_
              · refine ask_do rfl fun K hK => ?_
                go_simp
                exact hK _ _ rfl rfl (World.grownBy.refl _ none)
              -- op 6 (slot 105): fieldAddr
              refine MonoR.step (Pv.eq (.pointer (some ⟨w.heap.size, 1, none⟩))) [] (by kernel_rfl) (fun w' hw' => ?_) ?_
              · refine ask_do rfl fun K hK => ?_
                go_simp
                exact hK _ _ rfl rfl (World.grownBy.refl _ none)
              -- op 7 (slot 106): load
              refine MonoR.step (Pv.eq (.int .u64 p.Q)) [(6, 105)] (by kernel_rfl) (fun w' hw' => ?_) ?_
              · rintro _ rfl
                refine ask_do rfl fun K hK => ?_
                obtain ⟨q0, q1, q2⟩ := HLD.out w' (HG6.out.trans hw')
                go_simp
                exact hK _ _ rfl rfl (World.grownBy.refl _ none)
              -- op 8 (slot 107): call
              refine MonoR.step (slU b1) [(4, 103), (5, 104), (7, 106)] (by kernel_rfl) (fun w' hw' => ?_) ?_
              · rintro _ rfl
                rintro _ rfl
                rintro _ rfl
                refine ask_do rfl fun K hK => ?_
                go_simp
                refine (HCo1.out w' (HG6.out.trans hw')).mono ?_
                rintro e w3 ⟨v3, rfl, hs3, hg3⟩
                exact hK _ _ rfl (hs3.more fun _ _ _ => trivial) hg3
              -- op 9 (slot 108): move
              refine MonoR.step (Pv.eq (.slice (some ⟨gR, oR, none⟩) L cR)) [] (by kernel_rfl) (fun w' hw' => ?_) ?_
              · refine ask_do rfl fun K hK => ?_
                go_simp
                exact hK _ _ rfl rfl (World.grownBy.refl _ none)
              -- op 10 (slot 109): move
              refine MonoR.step (Pv.eq (.int .i64 (i : Int))) [] (by kernel_rfl) (fun w' hw' => ?_) ?_
              · refine ask_do rfl fun K hK => ?_
                go_simp
                exact hK _ _ rfl rfl (World.grownBy.refl _ none)
              -- op 11 (slot 110): indexAddr
              refine MonoR.step (Pv.eq (.pointer (some ⟨gR, oR + i, none⟩))) [(9, 108), (10, 109)] (by kernel_rfl) (fun w' hw' => ?_) ?_
              · rintro _ rfl
                rintro _ rfl
                refine ask_do rfl fun K hK => ?_
                go_simp
                exact hK _ _ rfl rfl (World.grownBy.refl _ none)
              -- op 12 (slot 111): load
              refine MonoR.step (Pv.eq (.slice Ab t cb)) [(11, 110)] (by kernel_rfl) (fun w' hw' => ?_) ?_
              · rintro _ rfl
                refine ask_do rfl fun K hK => ?_
                obtain ⟨q0, q1, q2⟩ := HLD.out w' (HG6.out.trans hw')
                go_simp
                exact hK _ _ rfl rfl (World.grownBy.refl _ none)
              -- op 13 (slot 112): move
              refine MonoR.step (Pv.eq (.int .u64 ((j : Int) + 1))) [] (by kernel_rfl) (fun w' hw' => ?_) ?_
              · refine ask_do rfl fun K hK => ?_
                go_simp
                exact hK _ _ rfl rfl (World.grownBy.refl _ none)
              -- op 14 (slot 113): fieldAddr
              refine MonoR.step (Pv.eq (.pointer (some ⟨w.heap.size, 1, none⟩))) [] (by kernel_rfl) (fun w' hw' => ?_) ?_
              · refine ask_do rfl fun K hK => ?_
                go_simp
                exact hK _ _ rfl rfl (World.grownBy.refl _ none)
              -- op 15 (slot 114): load
              refine MonoR.step (Pv.eq (.int .u64 p.Q)) [(14, 113)] (by kernel_rfl) (fun w' hw' => ?_) ?_
              · rintro _ rfl
                refine ask_do rfl fun K hK => ?_
                obtain ⟨q0, q1, q2⟩ := HLD.out w' (HG6.out.trans hw')
                go_simp
                exact hK _ _ rfl rfl (World.grownBy.refl _ none)
              -- op 16 (slot 115): call
              refine MonoR.step (slU b2) [(12, 111), (13, 112), (15, 114)] (by kernel_rfl) (fun w' hw' => ?_) ?_
              · rintro _ rfl
                rintro _ rfl
                rintro _ rfl
                refine ask_do rfl fun K hK => ?_
                go_simp
                refine (HCo2.out w' (HG6.out.trans hw')).mono ?_
                rintro e w3 ⟨v3, rfl, hs3, hg3⟩
                exact hK _ _ rfl (hs3.more fun _ _ _ => trivial) hg3
              -- op 17 (slot 116): call
              refine MonoR.step (slP N2 yc) [(8, 107), (16, 115)] (by kernel_rfl) (fun w' hw' => ?_) ?_
              · intro x107 h107
                have h107 : Sl encU TT w' x107 b1 := h107
                obtain ⟨A107, c107, e107, k107, l107⟩ := h107.form
                subst e107
                intro x115 h115
                have h115 : Sl encU TT w' x115 b2 := h115
                obtain ⟨A115, c115, e115, k115, l115⟩ := h115.form
                subst e115
                refine ask_do rfl fun K hK => ?_
                go_simp
                refine (HPc.out _ _ w' h107 h115).mono ?_
                rintro e w3 ⟨v3, rfl, hs3, hg3⟩
                exact hK _ _ rfl (hs3.more fun b _ hb => Nat.le_trans (by rw [HN2.out]; exact hw'.size) hb) hg3
              -- op 18 (slot 117): buildSlice
              refine MonoR.step (blkP N2 yc) [(17, 116)] (by kernel_rfl) (fun w' hw' => ?_) ?_
              · intro x116 h116
                have h116 : Sl encP (fun b => N2 ≤ b) w' x116 yc := h116
                obtain ⟨A116, c116, e116, k116, l116⟩ := h116.form
                subst e116
                refine ask_do rfl fun K hK => ?_
                go_simp
                exact hK _ _ rfl ⟨_, _, _, _, rfl, Bk.new w' _ _, h116.kept (World.grownBy_alloc w' _ none)⟩ (World.grownBy_alloc w' _ none)
              
              intro w7 hw7
              intro y0 k0 y1 k1 y2 k2 y3 k3 y4 k4 y5 k5 y6 k6 y7 k7 y8 k8 y9 k9 y10 k10 y11 k11 y12 k12 y13 k13 y14 k14 y15 k15 y16 k16 y17 k17 y18 k18
              show wpList Tryz.prog _ _ _ _ w7
              simp only [Act.put, List.setIfInBounds_toArray, List.set_cons_zero, List.set_cons_succ]
              have e0 : y0 = .slice A17 n17 c17 := k0
              subst e0
              have k18' : ∃ A n c b, y18 = .slice (some ⟨b, 0, none⟩) 1 1 ∧ Bk w7 b 51 #[.slice A n c] ∧ Sl encP (fun b => N2 ≤ b) w7 (.slice A n c) yc := k18
              obtain ⟨Ay, ny, cy, by', ey, hky, hsy⟩ := k18'
              subst ey
              have HS7 := Lib.hid (HS6.out.kept hw7)
              have HG7 : Hid (wj.grownBy w7 none) := Lib.hid (HG6.out.trans hw7)
              have HZ7 : Hid (wj.heap.size ≤ w7.heap.size) := Lib.hid HG7.out.size
              have HKY := Lib.hid hky
              have HREP : Hid ((encS encP).rep (fun b => (wj.heap.size ≤ b ∧ some b ≠ (Value.slice A18 n18 c18).ownBlock) ∧ some b ≠ (Value.slice A17 n17 c17).ownBlock) w7 [.slice Ay ny cy] yc) := Lib.hid ⟨_, rfl, hsy.more fun b _ hb => by
                rw [HN2.out] at hb
                exact ⟨⟨Nat.le_trans HG6.out.size hb, fun e => absurd hb (Nat.not_le_of_lt (HS6.out.fst.lt b e.symm).2)⟩, fun e => absurd hb (Nat.not_le_of_lt (HS6.out.snd.lt b e.symm).2)⟩⟩
              clear hky hsy k0 k1 k2 k3 k4 k5 k6 k7 k8 k9 k10 k11 k12 k13 k14 k15 k16 k17 k18 hw7 HS6 HG6 HN2
              refine wpList_plain rfl fun K hK => ?_
              refine pushAt_core (E := encS encP) (y := yc) el_pairs HS7.out.snd HREP.out (Bk.one HKY.out) HLN17.out HZ7.out (HS7.out.new2 (fun _ h => Nat.le_trans HZ7.out h)) (.tmp 99) (.tmp 117) rfl rfl rfl ?_
              intro v8 w8 ha hgr hm
              refine hK _ _ ?_
              clear hK
              have HFIN : Hid (Side (encS encP) (encS encP) wj.heap.size 51 51 (fun b => wj.heap.size ≤ b) w8 (.slice A18 n18 c18) v8 ((List.range (i + 1)).map (rowP p.Q F R t ((j : Int) + 1))) ((List.range (i + 1)).map (colP p.Q F R t ((j : Int) + 1))) ∧ wj.grownBy w8 none) := Lib.hid ⟨by
                rw [HN17.out]
                exact HS7.out.two ha hgr hm, grown_up HG7.out hgr (fun b e => (HS7.out.snd.lt b e).1)⟩
              clear ha hgr hm HS7 HG7 HREP HKY HZ7 HN17 HRo1 HRo2 HCo1 HCo2 HPr HPc HLD
              go_wp2_with fail
              go_roundg q
              case measure => omega
              case rel => exact ⟨i + 1, by omega, by go_num, HFIN⟩
    | succ m =>
      have hin : (s : Int) < (L : Int) := by omega
      have hsl : s < l.length := by have := HLN.out; omega
      obtain ⟨gl, ol, cl, el, _, _, hcl0, hcl1, hul1, hul2⟩ := (HLX.out _ HG3.out).atP hsl
      injection el with el1 el2 el3
      subst el1 el3
      obtain ⟨kb, hkb⟩ : ∃ y, y = k0 + s * (2 * dd) := ⟨_, rfl⟩
      have hkm : kb + 2 * dd ≤ most := by
        have h1 : (s + 1) * (2 * dd) ≤ L * (2 * dd) := Nat.mul_le_mul_right _ (by omega)
        have h2 := HMO.out
        rw [Nat.add_mul, Nat.one_mul] at h1
        omega
      have HKN : Hid (k0 + (s + 1) * (2 * dd) = kb + dd + dd) := Lib.hid (by rw [hkb, Nat.add_mul, Nat.one_mul]; omega)
      have HFN : Hid (makeFs l p.Q dr t k0 (s + 1) = makeFs l p.Q dr t k0 s ++ [twoL l[s].1 p.Q dr t kb]) := Lib.hid (by
        rw [hkb, HDD.out]
        refine (hsnoc _ _).trans ?_
        show _ ++ [twoL (l[s]?.getD (0, 0)).1 p.Q dr t (k0 + s * (2 * (t * t - 1)))] = _
        rw [List.getElem?_eq_getElem hsl]
        rfl)
      have HRN : Hid (makeBs l p.Q dr t k0 (s + 1) = makeBs l p.Q dr t k0 s ++ [twoL l[s].2 p.Q dr t (kb + dd)]) := Lib.hid (by
        rw [hkb, HDD.out]
        refine (hsnoc _ _).trans ?_
        show _ ++ [twoL (l[s]?.getD (0, 0)).2 p.Q dr t (k0 + s * (2 * (t * t - 1)) + (t * t - 1))] = _
        rw [List.getElem?_eq_getElem hsl]
        rfl)
      rw [← hkb] at HI3
      obtain ⟨x, hx⟩ : ∃ y, y = l[s] := ⟨_, rfl⟩
      rw [← hx] at HFN HRN hcl0 hcl1 hul1 hul2
      obtain ⟨x1, x2⟩ := x
      simp only at HFN HRN hcl0 hcl1 hul1 hul2
      obtain ⟨wa, hwa⟩ : ∃ y, y = wr.alloc (Obj.cells #[.int .u64 x1, .int .u64 x2] 70) := ⟨_, rfl⟩
      obtain ⟨Bb, hBb⟩ : ∃ y, y = wr.heap.size := ⟨_, rfl⟩
      have HGA : Hid (wr.grownBy wa none) := Lib.hid (by rw [hwa]; exact World.grownBy_alloc _ _ none)
      have HBA : Hid (Bk wa Bb 70 #[.int .u64 x1, .int .u64 x2]) := Lib.hid (by rw [hwa, hBb]; exact Bk.new _ _ _)
      have HIA : Hid (TI kb wa) := Lib.hid (HT.out.keep HI3.out HGA.out (by simp))
      have HSA := Lib.hid (HS0.out.kept HGA.out)
      have HGa : Hid (w2.grownBy wa (some g)) := Lib.hid (HG3.out.trans (HGA.out.but _))
      have HB1 := Lib.hid (HTW.out x1 kb wa hul1 (by omega) HIA.out)
      have HU2 := Lib.hid hul2
      obtain ⟨y, hy⟩ : ∃ y, y = twoL x1 p.Q dr t kb := ⟨_, rfl⟩
      rw [← hy] at HFN HB1
      obtain ⟨z, hz⟩ : ∃ y, y = twoL x2 p.Q dr t (kb + dd) := ⟨_, rfl⟩
      rw [← hz] at HRN
      have HZ := Lib.hid hz
      have HLF : Hid (((makeFs l p.Q dr t k0 s).length + 1) * 24 ≤ 140737488355328) := Lib.hid (by simp [makeFs]; omega)
      have HLR : Hid (((makeBs l p.Q dr t k0 s).length + 1) * 24 ≤ 140737488355328) := Lib.hid (by simp [makeBs]; omega)
      have HBb : Hid (w2.heap.size ≤ Bb ∧ (∀ r, u10.ownBlock = some r → r < Bb) ∧ (∀ r, u11.ownBlock = some r → r < Bb)) := Lib.hid (by rw [hBb]; exact ⟨HG3.out.size, fun r e => (HS0.out.fst.lt r e).2, fun r e => (HS0.out.snd.lt r e).2⟩)
      have HBs : Hid (Bb < wa.heap.size) := Lib.hid HBA.out.lt
      have hpa : ∀ o, (wr.alloc (Obj.cells #[.int .u64 x1, .int .u64 x2] 70)).cell? ⟨w.heap.size, o, none⟩ = (#[.int .u64 p.P, .int .u64 p.Q, .int .u64 p.G, .int .u64 p.H, .int .i64 p.Nodes, .int .i64 p.N, .int .i64 p.T, .int .i64 p.K, .int .i64 p.D, .int .i64 p.R, .int .i64 p.M, .int .i64 p.X] : Array Value)[o]? := by rw [← hwa]; exact (HPX.out _ HGa.out).prule
      have d0 : (wr.alloc (Obj.cells #[.int .u64 x1, .int .u64 x2] 70)).cell? ⟨wr.heap.size, 0, none⟩ = some (.int .u64 x1) := by rw [← hwa, ← hBb]; simpa using HBA.out.cell 0
      clear hkb hy hz el2 hx hul1 hul2 hsl
      go_wp2_with fail
      rw [← hwa, ← hBb]
      clear hwa hBb hp3 hcl0 hcl1
      refine HB1.out.mono ?_
      rintro e w3 ⟨v50, rfl, hs3, hi3, hg3⟩
      obtain ⟨A50, n50, c50, rfl⟩ := hs3.shape
      have HG4 : Hid (w2.grownBy w3 (some g)) := Lib.hid (HGa.out.trans hg3)
      have HI4 := Lib.hid hi3
      have HS4 := Lib.hid (HSA.out.keep hg3 (fun b hb e => by injection e with e; have := HW2.out; omega))
      have HBA4 := Lib.hid (HBA.out.grown hg3 (fun e => by injection e with e; have := HW2.out; have := HBb.out.1; omega))
      have HREP : Hid ((encS (encS encU)).rep (fun b => (w2.heap.size ≤ b ∧ some b ≠ u11.ownBlock) ∧ some b ≠ u10.ownBlock) w3 [.slice A50 n50 c50] y) := Lib.hid ⟨_, rfl, hs3.more fun b _ hb => ⟨⟨by have := HBb.out.1; have := HBs.out; omega, fun e => by have := HBb.out.2.2 b e.symm; have := HBs.out; omega⟩, fun e => by have := HBb.out.2.1 b e.symm; have := HBs.out; omega⟩⟩
      have HZ4 : Hid (w2.heap.size ≤ w3.heap.size) := Lib.hid HG4.out.size
      clear hs3 hi3 hg3 hpa d0
      go_wp2_with (at_builtin; refine wpList_push rfl (.tmp 44) (.tmp 51) rfl (E := encS (encS encU)) (y := y) el_rows HS4.out.fst rfl rfl HREP.out HLF.out HZ4.out (HS4.out.new1 (fun _ h => Nat.le_trans HZ4.out h)) ?_)
      intro v10 w4 ha hg hm
      have HS5 := Lib.hid (HS4.out.one ha hg hm)
      have HG5 : Hid (w2.grownBy w4 (some g)) := Lib.hid (HG4.out.andThen hg (fun j e => .inl (HS4.out.fst.lt j e).1))
      have HI5 : Hid (TI (kb + dd) w4) := Lib.hid (HT.out.keep HI4.out hg (fun b e hb => by have := (HS4.out.fst.lt b e).1; have := HOB.out b hb; have := HW2.out; omega))
      have HBA5 := Lib.hid (HBA4.out.grown hg (fun e => by have := HBb.out.2.1 _ e.symm; omega))
      clear ha hg hm
      have hp5 := (HPX.out _ HG5.out).prule
      have d1 := HBA5.out.cell 1
      simp at d1
      have HB7 := Lib.hid (HTW.out x2 (kb + dd) w4 HU2.out (by omega) HI5.out)
      rw [← HZ.out] at HB7
      go_wp2_with fail
      refine HB7.out.mono ?_
      rintro e w6 ⟨v59, rfl, hs6, hi6, hg6⟩
      obtain ⟨A59, n59, c59, rfl⟩ := hs6.shape
      have HG8 : Hid (w2.grownBy w6 (some g)) := Lib.hid (HG5.out.trans hg6)
      have HI8 := Lib.hid hi6
      have HS8 := Lib.hid (HS5.out.keep hg6 (fun b hb e => by injection e with e; have := HW2.out; omega))
      have HZ8 : Hid (w2.heap.size ≤ w6.heap.size) := Lib.hid HG8.out.size
      have HREP2 : Hid ((encS (encS encU)).rep (fun b => (w2.heap.size ≤ b ∧ some b ≠ v10.ownBlock) ∧ some b ≠ u11.ownBlock) w6 [.slice A59 n59 c59] z) := Lib.hid ⟨_, rfl, hs6.more fun b _ hb => ⟨⟨Nat.le_trans HG5.out.size hb, fun e => by have := (HS5.out.fst.lt b e.symm).2; omega⟩, fun e => by have := (HS5.out.snd.lt b e.symm).2; omega⟩⟩
      clear hs6 hi6 hg6 hp5 d1
      go_wp2_with (at_builtin; refine wpList_push rfl (.tmp 53) (.tmp 60) rfl (E := encS (encS encU)) (y := z) el_rows HS8.out.snd rfl rfl HREP2.out HLR.out HZ8.out (HS8.out.new2 (fun _ h => Nat.le_trans HZ8.out h)) ?_)
      intro v11 w7 ha hg hm
      have HFIN : Hid (Side (encS (encS encU)) (encS (encS encU)) w2.heap.size 35 35 (fun b => w2.heap.size ≤ b) w7 v10 v11 (makeFs l p.Q dr t k0 (s + 1)) (makeBs l p.Q dr t k0 (s + 1)) ∧ TI (k0 + (s + 1) * (2 * dd)) w7 ∧ w2.grownBy w7 (some g)) := Lib.hid ⟨by rw [HFN.out, HRN.out]; exact HS8.out.two ha hg hm, by
        rw [HKN.out]
        exact HT.out.keep HI8.out hg (fun b e hb => by have := (HS8.out.snd.lt b e).1; have := HOB.out b hb; have := HW2.out; omega), HG8.out.andThen hg (fun j e => .inl (HS8.out.snd.lt j e).1)⟩
      clear ha hg hm
      go_wp2_with fail
      go_roundg m
      case measure => omega
      case rel => exact ⟨s + 1, by omega, by go_num, HFIN⟩
end Go.Proofs.YtiimippmihkgcaaGreatDoor
