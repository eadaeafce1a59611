/- deal: small, secrets, paired, lists, OpenPairs, OpenComs, walked. -/
import Derived.Test.YtoibeeecmkpdpaaDealCut
import Derived.Test.YtoibeeecmkpdpaaPairM
import Derived.Deep.RegionHeld3
import Derived.Deep.DeepCutAuto
namespace Go.Proofs.Ytoibeeecmkpdpaa
open Go.RowKit

def smallB (p : Par) : Bool := decide (0 ≤ p.K) && decide (p.K ≤ 2) && decide (0 ≤ p.D) && decide (p.D ≤ 4) && decide (0 ≤ p.T) && decide (p.T ≤ 2)
theorem smallB_iff (p : Par) : smallB p = true ↔ 0 ≤ p.K ∧ p.K ≤ 2 ∧ 0 ≤ p.D ∧ p.D ≤ 4 ∧ 0 ≤ p.T ∧ p.T ≤ 2 := by
  simp [smallB, and_assoc]
theorem small_yes (p : Par) (w : World) (h : smallB p = true) : Calls Try.prog 31 #[p.v] w fun e w' => e = .returned (.bool true) ∧ w.grownBy w' none := by
  obtain ⟨a, b, c, d, e, f⟩ := (smallB_iff p).1 h
  clear h
  go_enter Try.func31, Try.ntmps31
  go_wp2_with fail
  all_goals
    go_ret
    exact ⟨rfl, World.grownBy_alloc w _ none⟩
theorem small_no (p : Par) (w : World) (h : smallB p = false) : Calls Try.prog 31 #[p.v] w fun e w' => e = .returned (.bool false) ∧ w.grownBy w' none := by
  have hn : ¬ (0 ≤ p.K ∧ p.K ≤ 2 ∧ 0 ≤ p.D ∧ p.D ≤ 4 ∧ 0 ≤ p.T ∧ p.T ≤ 2) := fun k => by rw [(smallB_iff p).2 k] at h; cases h
  clear h
  by_cases a : 0 ≤ p.K
  · by_cases c : 0 ≤ p.D
    · by_cases e : 0 ≤ p.T
      · by_cases b : p.K ≤ 2
        · by_cases d : p.D ≤ 4
          · have f : ¬ p.T ≤ 2 := by omega
            clear hn
            go_enter Try.func31, Try.ntmps31
            go_wp2_with fail
            all_goals (first | (go_ret; exact ⟨rfl, World.grownBy_alloc w _ none⟩) | (exfalso; omega))
          · clear hn
            go_enter Try.func31, Try.ntmps31
            go_wp2_with fail
            all_goals (first | (go_ret; exact ⟨rfl, World.grownBy_alloc w _ none⟩) | (exfalso; omega))
        · clear hn
          go_enter Try.func31, Try.ntmps31
          go_wp2_with fail
          all_goals (first | (go_ret; exact ⟨rfl, World.grownBy_alloc w _ none⟩) | (exfalso; omega))
      · clear hn
        go_enter Try.func31, Try.ntmps31
        go_wp2_with fail
        all_goals (first | (go_ret; exact ⟨rfl, World.grownBy_alloc w _ none⟩) | (exfalso; omega))
    · clear hn
      go_enter Try.func31, Try.ntmps31
      go_wp2_with fail
      all_goals (first | (go_ret; exact ⟨rfl, World.grownBy_alloc w _ none⟩) | (exfalso; omega))
  · clear hn
    go_enter Try.func31, Try.ntmps31
    go_wp2_with fail
    all_goals (first | (go_ret; exact ⟨rfl, World.grownBy_alloc w _ none⟩) | (exfalso; omega))
theorem rsmall_yes (p : Par) (w : World) (h : smallB p = true) : Calls Try.prog 37 #[p.v] w fun e w' => e = .returned (.bool true) ∧ w.grownBy w' none := by
  obtain ⟨a, b, c, d, e, f⟩ := (smallB_iff p).1 h
  clear h
  go_enter Try.func37, Try.ntmps37
  go_wp2_with fail
  go_ret
  exact ⟨rfl, World.grownBy_alloc w _ none⟩
theorem rsmall_no (p : Par) (w : World) (h : smallB p = false) : Calls Try.prog 37 #[p.v] w fun e w' => e = .returned (.bool false) ∧ w.grownBy w' none := by
  have hn : ¬ (0 ≤ p.K ∧ p.K ≤ 2 ∧ 0 ≤ p.D ∧ p.D ≤ 4 ∧ 0 ≤ p.T ∧ p.T ≤ 2) := fun k => by rw [(smallB_iff p).2 k] at h; cases h
  clear h
  go_enter Try.func37, Try.ntmps37
  go_wp2_with fail
  all_goals (first | (go_ret; exact ⟨rfl, World.grownBy_alloc w _ none⟩) | (go_ret; exact ⟨ret_bool (by simp only [decide_eq_false_iff_not]; omega), World.grownBy_alloc w _ none⟩))
theorem ret_i64 {a b : Int} (h : a = b) : Ending.returned (.int .i64 a) = .returned (.int .i64 b) := by rw [h]
def secI (p : Par) : Int := p.K * (p.D + 1)
theorem secI_bds {p : Par} (h : smallB p = true) : 0 ≤ secI p ∧ secI p ≤ 10 := by
  obtain ⟨a, b, c, d, e, f⟩ := (smallB_iff p).1 h
  have h1 : p.K * (p.D + 1) ≤ 2 * 5 := Int.mul_le_mul b (by omega) (by omega) (by omega)
  have h2 : 0 ≤ p.K * (p.D + 1) := Int.mul_nonneg a (by omega)
  unfold secI
  omega
theorem secrets_any (p : Par) (w : World) (h : smallB p = true) : Calls Try.prog 32 #[p.v] w fun e w' => e = .returned (.int .i64 (secI p)) ∧ w.grownBy w' none := by
  obtain ⟨a, b, c, d, e, f⟩ := (smallB_iff p).1 h
  have HE : Hid (p.K * (p.D + 1) = secI p) := Lib.hid rfl
  have h1 : p.K * (p.D + 1) ≤ 2 * 5 := Int.mul_le_mul b (by omega) (by omega) (by omega)
  have h2 : 0 ≤ p.K * (p.D + 1) := Int.mul_nonneg a (by omega)
  clear h
  go_enter Try.func32, Try.ntmps32
  go_wp2_with fail
  go_ret
  exact ⟨ret_i64 HE.out, World.grownBy_alloc w _ none⟩
theorem rsecrets_any (p : Par) (w : World) (h : smallB p = true) : Calls Try.prog 38 #[p.v] w fun e w' => e = .returned (.int .i64 (secI p)) ∧ w.grownBy w' none := by
  obtain ⟨a, b, c, d, e, f⟩ := (smallB_iff p).1 h
  have HE : Hid (p.K * (p.D + 1) = secI p) := Lib.hid rfl
  have h1 : p.K * (p.D + 1) ≤ 2 * 5 := Int.mul_le_mul b (by omega) (by omega) (by omega)
  have h2 : 0 ≤ p.K * (p.D + 1) := Int.mul_nonneg a (by omega)
  clear h
  go_enter Try.func38, Try.ntmps38
  go_wp2_with fail
  go_ret
  exact ⟨ret_i64 HE.out, World.grownBy_alloc w _ none⟩
theorem pairedf_any (v : Value) (a b : Int) (X : Nat → Prop) (w : World) (h : Sl encU X w v [a, b]) : Calls Try.prog 64 #[v] w fun e w' => e = .returned (.agg #[.int .u64 a, .int .u64 b]) ∧ w.grownBy w' none := by
  have H := Lib.hid h
  obtain ⟨A, c, rfl, hc1, hc2⟩ := h.form
  obtain ⟨g, o, c', e, hg, _, h0, _⟩ := H.out.atU (k := 0) (by simp)
  injection e with e1 e2 e3
  subst e1 e3
  obtain ⟨g', o', c'', e, _, _, h1, _⟩ := H.out.atU (k := 1) (by simp)
  injection e with e1 e2 e3
  injection e1 with e1
  injection e1 with e1 e4
  subst e1 e4
  simp only [List.getElem_cons_zero, List.getElem_cons_succ, Nat.add_zero] at h0 h1
  have h2 : ([a, b].length : Nat) = 2 := rfl
  rw [h2]
  have n0 := World.new_ne w _ h0
  have n1 := World.new_ne w _ h1
  have z0 := fun n => (zero_pair w n).1
  have z1 := fun n => (zero_pair w n).2.1
  have z2 := fun n => (zero_pair w n).2.2.1
  have z3 := fun n => (zero_pair w n).2.2.2
  clear h e2 e3 h2 hc1
  go_enter Try.func64, Try.ntmps64
  go_wp2_with fail
  go_region_held3 (fun w' => w'.cell? ⟨g, o, none⟩ = some (.int .u64 a) ∧ w'.cell? ⟨g, o + 1, none⟩ = some (.int .u64 b)) (go_keep) (fail)
  go_wp2_with fail
  refine bodyPost_ret (v := .agg #[.int .u64 a, .int .u64 b]) (by simp [results, Try.results64, go_sem]) rfl ⟨rfl, ?_⟩
  exact grownBy_drewN (World.grownBy_alloc w _ none) 1
def pairOf (l : List Int) : Int × Int := (l[0]?.getD 0, l[1]?.getD 0)
theorem map_take_snoc {α β : Type} (f : α → β) (l : List α) (j : Nat) (h : j < l.length) : (l.take (j + 1)).map f = (l.take j).map f ++ [f l[j]] := by
  rw [List.take_succ_eq_append_getElem h, List.map_append]
  rfl
theorem pairOf_rep {X : Nat → Prop} {w : World} {v : Value} {l : List Int} (h : Sl encU X w v l) (h2 : l.length = 2) : U64 (pairOf l).1 ∧ U64 (pairOf l).2 ∧ l = [(pairOf l).1, (pairOf l).2] := by
  match l, h2 with
  | [a, b], _ =>
    obtain ⟨_, _, _, _, _, _, _, u0⟩ := h.atU (k := 0) (by simp)
    obtain ⟨_, _, _, _, _, _, _, u1⟩ := h.atU (k := 1) (by simp)
    exact ⟨u0, u1, rfl⟩
theorem pairedf_of (v : Value) (l : List Int) (X : Nat → Prop) (w : World) (h : Sl encU X w v l) (h2 : l.length = 2) : Calls Try.prog 64 #[v] w fun e w' => e = .returned (.agg #[.int .u64 (pairOf l).1, .int .u64 (pairOf l).2]) ∧ w.grownBy w' none := by
  obtain ⟨_, _, q⟩ := pairOf_rep h h2
  exact pairedf_any v _ _ X w (q ▸ h)
set_option maxHeartbeats 400000 in
theorem eachp_any (v : Value) (ls : List (List Int)) (X : Nat → Prop) (w : World) (h : Sl (encS encU) X w v ls) (h2 : ∀ l ∈ ls, l.length = 2) (hb : ls.length ≤ 100000) :
    Calls Try.prog 63 #[v, .func (.func 64) #[] #[]] w (Gives encP (fun g => w.heap.size ≤ g) w (ls.map pairOf)) := by
  have H := Lib.hid h
  have H2 := Lib.hid h2
  have HST : Hid (Acc encP w.heap.size 60 (fun g => w.heap.size ≤ g) w (.slice none 0 0) ((ls.take 0).map pairOf) ∧ w.grownBy w none) := Lib.hid ⟨Acc.nil _ _ _ _ _, World.grownBy.refl w none⟩
  obtain ⟨A, c, rfl, hc1, hc2⟩ := h.form
  clear h h2
  go_enter Try.func63, Try.ntmps63
  go_wp2_with fail
  go_loopg [5, 10] ls.length (fun g s5 s10 wx => ∃ j : Nat, j + g = ls.length ∧ s10 = .int .i64 j ∧ Hid (Acc encP w.heap.size 60 (fun g => w.heap.size ≤ g) wx s5 ((ls.take j).map pairOf) ∧ w.grownBy wx none))
  case atStart => exact ⟨0, by omega, rfl, HST⟩
  case round =>
    obtain ⟨j, hj, rfl, HX⟩ := hrel
    cases gk with
    | zero =>
      obtain rfl : j = ls.length := by omega
      have HR : Hid (Sl encP (fun g => w.heap.size ≤ g) wr u5 (ls.map pairOf)) := Lib.hid (by have := HX.out.1.sl; rwa [List.take_length] at this)
      have HG := Lib.hid HX.out.2
      clear HX HST
      go_wp2
      go_ret
      exact ⟨_, rfl, HR.out, HG.out⟩
    | succ m =>
      have hjn : (j : Int) < (ls.length : Int) := by omega
      have hjN : j < ls.length := by omega
      obtain ⟨hacc, hg⟩ := HX.out
      obtain ⟨g, o, c', u, e, _, _, hcu, hsu⟩ := (H.out.kept hg).atS hjN
      injection e with e1 e2 e3
      subst e1 e3
      obtain ⟨A1, c1, e1, _, _⟩ := hsu.form
      have h2j := H2.out _ (List.getElem_mem hjN)
      rw [h2j] at e1
      subst e1
      obtain ⟨q1, q2, _⟩ := pairOf_rep hsu h2j
      have HSN := Lib.hid (map_take_snoc pairOf ls j hjN)
      have HF := Lib.hid (pairedf_of _ ls[j] X wr hsu h2j)
      have HREP : Hid (U64 (pairOf ls[j]).1 ∧ U64 (pairOf ls[j]).2) := Lib.hid ⟨q1, q2⟩
      have HAC := Lib.hid hacc
      have HG := Lib.hid hg
      have HLB : Hid ((((ls.take j).map pairOf).length + 1) * 16 ≤ 140737488355328) := Lib.hid (by simp; omega)
      clear hacc hg hsu e2 q1 q2 h2j HX HST
      generalize pairOf ls[j] = pj at *
      go_wp2_with fail
      refine HF.out.mono ?_
      rintro e' w1 ⟨rfl, hg1⟩
      have HG1 := Lib.hid hg1
      have HG2 := Lib.hid (HG.out.trans hg1)
      have HA1 := Lib.hid (HAC.out.kept hg1)
      clear hg1
      go_wp2_with (at_builtin; refine wpList_pushG rfl (.tmp 14) (.tmp 18) rfl (E := encP) el_pair HG2.out HA1.out (fun _ h => h) ⟨rfl, HREP.out⟩ HLB.out rfl rfl ?_)
      intro v2 w2 hacc2 hg2 _
      have HFIN : Hid (Acc encP w.heap.size 60 (fun g => w.heap.size ≤ g) w2 v2 ((ls.take (j + 1)).map pairOf) ∧ w.grownBy w2 none) := Lib.hid ⟨by rw [HSN.out]; simpa using hacc2, hg2⟩
      clear hacc2 hg2
      go_wp2_with fail
      go_roundg m
      case measure => omega
      case rel => exact ⟨j + 1, by omega, by go_num, HFIN⟩
/-- The pairs that numbers are, k of them. -/
def prsI (l : List Int) (k : Nat) : List (Int × Int) := (chk 2 l k).map pairOf
theorem prsI_length (l : List Int) (k : Nat) : (prsI l k).length = k := by simp [prsI, chk_length]
set_option maxHeartbeats 400000 in
theorem paired_any (v : Value) (l : List Int) (k : Nat) (X : Nat → Prop) (w : World) (h : Sl encU X w v l) (hl : l.length = k * 2) (hb : l.length ≤ 100000) :
    Calls Try.prog 36 #[v] w (Gives encP (fun g => w.heap.size ≤ g) w (prsI l k)) := by
  have HC := Lib.hid (cutU_any v l 2 k X (fun _ => True) w h (by decide) hl hb (fun _ _ => trivial) (fun _ _ _ h => h))
  have HK : Hid (k ≤ 100000) := Lib.hid (by omega)
  have H2 : Hid (∀ x ∈ chk 2 l k, x.length = 2) := Lib.hid (fun x hx => by
    obtain ⟨j, hj, rfl⟩ := List.mem_map.1 hx
    have hj' : j < k := by simpa using hj
    rw [List.length_take, List.length_drop, hl]
    omega)
  clear h hl hb
  go_enter Try.func36, Try.ntmps36
  go_wp2_with fail
  refine HC.out.mono ?_
  rintro e w1 ⟨v1, rfl, hs, hg⟩
  have HG := Lib.hid hg
  have HE := Lib.hid (eachp_any v1 (chk 2 l k) _ w1 hs.plain H2.out (by rw [chk_length]; exact HK.out))
  clear hs hg
  go_wp2_with fail
  refine HE.out.mono ?_
  rintro e w2 ⟨v2, rfl, hs, hg⟩
  have HFIN : Hid (Sl encP (fun g => w.heap.size ≤ g) w2 v2 (prsI l k) ∧ w.grownBy w2 none) := Lib.hid ⟨hs.more (fun g _ hg' => Nat.le_trans HG.out.size hg'), HG.out.trans hg⟩
  clear hs hg
  go_wp2
  go_ret
  exact ⟨_, rfl, HFIN.out.1, HFIN.out.2⟩
end Go.Proofs.Ytoibeeecmkpdpaa
