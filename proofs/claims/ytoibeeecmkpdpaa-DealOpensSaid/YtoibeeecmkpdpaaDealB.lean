/- deal: lists, OpenPairs, OpenComs, Open, walked. -/
import Derived.Test.YtoibeeecmkpdpaaDealA
import Derived.Deep.QuietTactic
import Derived.BigQuiet
import Derived.Deep.OwnRows
import Derived.IntWalk
namespace Go.Proofs.Ytoibeeecmkpdpaa
open Go.RowKit

/-- n lists of so many things each. -/
def lstI {α : Type} (l : List α) (n each : Nat) : List (List α) := chk each l n
set_option maxHeartbeats 400000 in
theorem lists_any (v : Value) (l : List (Int × Int)) (n k : Nat) (X Y : Nat → Prop) (w : World) (h : Sl encP X w v l) (hl : l.length = n * k) (hn : n ≤ 100) (hk : k ≤ 100) (hY : ∀ g, w.heap.size ≤ g → Y g) :
    Calls Try.prog 35 #[v, .int .i64 n, .int .i64 k] w (Gives (encS encP) Y w (chk k l n)) := by
  have hlb : l.length ≤ 100000 := by
    have : n * k ≤ 100 * 100 := Nat.mul_le_mul hn hk
    omega
  by_cases h0 : k = 0
  · subst h0
    have HE : Hid (chk 0 l n = List.replicate n []) := Lib.hid (by simp [chk, List.map_const'])
    obtain ⟨A, c, rfl, _, _⟩ := h.form
    have hmk := run_make_row' (P := Try.prog) 27 33 (.slice none 0 0) 24 Try.underlying27 info_pairs rfl .i64 .i64 n (by omega) (by omega)
    have HN := Lib.hid (And.intro hn (hY _ (Nat.le_refl _)))
    clear h hl hlb hY
    go_enter Try.func35, Try.ntmps35
    go_wp2
    go_ret
    have hb : Bk (w.alloc (.cells (madeCells #[.slice none 0 0] n) 33)) w.heap.size 33 (madeCells #[.slice none 0 0] n) := Bk.new w _ _
    exact ⟨_, rfl, by rw [HE.out]; exact Sl.nils encP Y hb HN.out.2 (by have := HN.out.1; omega), World.grownBy_alloc w _ none⟩
  · have hk1 : 1 ≤ k := by omega
    have hkI : ((k : Int) == 0) = false := by simp; omega
    have HC := Lib.hid (cutP_any v l k n X Y w h hk1 hl hlb hY (fun _ _ _ h => h))
    clear h hl hY hlb h0
    go_enter Try.func35, Try.ntmps35
    go_wp2_with fail
    refine HC.out.mono ?_
    rintro e w1 ⟨v1, rfl, hs, hg⟩
    have HS := Lib.hid hs.plain
    have HG := Lib.hid hg
    clear hs hg
    go_wp2
    go_ret
    exact ⟨_, rfl, HS.out, HG.out⟩
/-- What OpenPairs tells: nothing but an error, or the pairs. -/
def opE (p : Par) (n : Nat) : Int := if smallB p = true then (if (n : Int) = 2 * secI p then 0 else 4) else 1
def opL (p : Par) (l : List Int) : List (Int × Int) := if opE p l.length = 0 then prsI l (secI p).toNat else []
set_option maxHeartbeats 400000 in
theorem openPairs_any (p : Par) (v : Value) (l : List Int) (X : Nat → Prop) (w : World) (h : Sl encU X w v l) (hb : l.length ≤ 1500) :
    Calls Try.prog 9 #[p.v, v] w (GivesE encP (fun g => w.heap.size ≤ g) w (opL p l) (opE p l.length)) := by
  have H := Lib.hid h
  obtain ⟨A, c, rfl, _, _⟩ := h.form
  have HB0 : Hid (Bk (w.alloc (Obj.cells p.cells 24)) w.heap.size 24 p.cells) := Lib.hid (Bk.new w _ _)
  have HG0 : Hid (w.grownBy (w.alloc (Obj.cells p.cells 24)) none) := Lib.hid (World.grownBy_alloc w _ none)
  clear h
  cases hs : smallB p with
  | false =>
    have HE : Hid (opE p l.length = 1 ∧ opL p l = []) := Lib.hid (by simp [opL, opE, hs])
    have HC := Lib.hid (fun w => small_no p w hs)
    clear hs
    go_enter Try.func9, Try.ntmps9
    go_wp2_with fail
    refine (HC.out _).mono ?_
    rintro e w1 ⟨rfl, hg⟩
    have HG := hidTrans hg HG0
    clear hg
    go_wp2
    go_ret2
    rw [HE.out.1, HE.out.2]
    exact ⟨_, rfl, Sl.nil _ _ _, HG.out⟩
  | true =>
    have HC := Lib.hid (fun w => small_yes p w hs)
    have HS := Lib.hid (fun w => secrets_any p w hs)
    obtain ⟨b1, b2⟩ := secI_bds hs
    by_cases hl : (l.length : Int) = 2 * secI p
    · have HE : Hid (opE p l.length = 0 ∧ opL p l = prsI l (secI p).toNat) := Lib.hid (by simp [opL, opE, hs, hl])
      have hd : ((l.length : Int) != 2 * secI p) = false := by simpa using hl
      have HP := Lib.hid (fun (w' : World) (hw : w.grownBy w' none) => paired_any _ l (secI p).toNat X w' (H.out.kept hw) (by omega) (by omega))
      clear hs hl
      go_enter Try.func9, Try.ntmps9
      go_wp2_with fail
      refine (HC.out _).mono ?_
      rintro e w1 ⟨rfl, hg⟩
      have HG1 := hidTrans hg HG0
      have HB1 := bkGrown hg HB0
      have hp1 := HB1.out.prule
      clear hg
      go_wp2_with fail
      refine (HS.out _).mono ?_
      rintro e w2 ⟨rfl, hg⟩
      have HG2 := hidTrans hg HG1
      clear hg hp1
      generalize secI p = q at *
      go_wp2_with fail
      refine (HP.out _ HG2.out).mono ?_
      rintro e w3 ⟨v3, rfl, hs3, hg3⟩
      have HFIN : Hid (Sl encP (fun g => w.heap.size ≤ g) w3 v3 (prsI l q.toNat) ∧ w.grownBy w3 none) := Lib.hid ⟨hs3.more (fun g _ h => Nat.le_trans HG2.out.size h), HG2.out.trans hg3⟩
      clear hs3 hg3
      go_wp2
      go_ret2
      rw [HE.out.1, HE.out.2]
      exact ⟨_, rfl, HFIN.out.1, HFIN.out.2⟩
    · have HE : Hid (opE p l.length = 4 ∧ opL p l = []) := Lib.hid (by simp [opL, opE, hs, hl])
      have hd : ((l.length : Int) != 2 * secI p) = true := by simpa using hl
      clear hs hl
      go_enter Try.func9, Try.ntmps9
      go_wp2_with fail
      refine (HC.out _).mono ?_
      rintro e w1 ⟨rfl, hg⟩
      have HG1 := hidTrans hg HG0
      have HB1 := bkGrown hg HB0
      have hp1 := HB1.out.prule
      clear hg
      go_wp2_with fail
      refine (HS.out _).mono ?_
      rintro e w2 ⟨rfl, hg⟩
      have HG2 := hidTrans hg HG1
      clear hg hp1
      generalize secI p = q at *
      go_wp2
      go_ret2
      rw [HE.out.1, HE.out.2]
      exact ⟨_, rfl, Sl.nil _ _ _, HG2.out⟩
/-- What OpenComs tells. -/
def ocE (p : Par) (n : Nat) : Int := if smallB p = true then (if (n : Int) = (p.T + 1) * secI p then 0 else 4) else 1
def ocL (p : Par) (l : List Int) : List (List Int) := if ocE p l.length = 0 then chk (p.T + 1).toNat l (secI p).toNat else []
theorem sec_nat {p : Par} (h : smallB p = true) : ∃ q t : Nat, secI p = (q : Int) ∧ p.T + 1 = (t : Int) ∧ q ≤ 10 ∧ 1 ≤ t ∧ t ≤ 3 := by
  obtain ⟨a, b, c, d, e, f⟩ := (smallB_iff p).1 h
  obtain ⟨h1, h2⟩ := secI_bds h
  exact ⟨(secI p).toNat, (p.T + 1).toNat, by omega, by omega, by omega, by omega, by omega⟩
set_option maxHeartbeats 400000 in
theorem openComs_any (p : Par) (v : Value) (l : List Int) (X : Nat → Prop) (w : World) (h : Sl encU X w v l) (hb : l.length ≤ 1500) :
    Calls Try.prog 11 #[p.v, v] w (GivesE (encW encU) (fun g => w.heap.size ≤ g) w (ocL p l) (ocE p l.length)) := by
  have H := Lib.hid h
  obtain ⟨A, c, rfl, _, _⟩ := h.form
  have HB0 : Hid (Bk (w.alloc (Obj.cells p.cells 24)) w.heap.size 24 p.cells) := Lib.hid (Bk.new w _ _)
  have HG0 : Hid (w.grownBy (w.alloc (Obj.cells p.cells 24)) none) := Lib.hid (World.grownBy_alloc w _ none)
  clear h
  cases hs : smallB p with
  | false =>
    have HE : Hid (ocE p l.length = 1 ∧ ocL p l = []) := Lib.hid (by simp [ocL, ocE, hs])
    have HC := Lib.hid (fun w => small_no p w hs)
    clear hs
    go_enter Try.func11, Try.ntmps11
    go_wp2_with fail
    refine (HC.out _).mono ?_
    rintro e w1 ⟨rfl, hg⟩
    have HG := hidTrans hg HG0
    clear hg
    go_wp2
    go_ret2
    rw [HE.out.1, HE.out.2]
    exact ⟨_, rfl, Sl.nil _ _ _, HG.out⟩
  | true =>
    have HC := Lib.hid (fun w => small_yes p w hs)
    have HS := Lib.hid (fun w => secrets_any p w hs)
    obtain ⟨q, t, hq, ht, q1, t1, t2⟩ := sec_nat hs
    have HQ := Lib.hid hq
    have HT := Lib.hid ht
    have m1 : (t : Int) * (q : Int) ≤ 3 * 10 := Int.mul_le_mul (by omega) (by omega) (by omega) (by omega)
    have m0 : 0 ≤ (t : Int) * (q : Int) := Int.mul_nonneg (by omega) (by omega)
    have k1 : IntKind.i64.wrap (p.T + 1) = (t : Int) := by rw [ht]; exact IntWalk.i64_in _ (by omega)
    have k2 : IntKind.i64.wrap ((t : Int) * (q : Int)) = (t : Int) * (q : Int) := IntWalk.i64_in _ (by omega)
    by_cases hl : (l.length : Int) = (t : Int) * (q : Int)
    · have HE : Hid (ocE p l.length = 0 ∧ ocL p l = chk t l q) := Lib.hid (by simp [ocL, ocE, hs, hl, hq, ht])
      have hd : ((l.length : Int) != (t : Int) * (q : Int)) = false := by simpa using hl
      have hl2 : l.length = q * t := by rw [Nat.mul_comm]; exact_mod_cast hl
      have HP := Lib.hid (fun (w' : World) (hw : w.grownBy w' none) => cutU_any _ l t q X (fun g => w.heap.size ≤ g) w' (H.out.kept hw) t1 hl2 (by omega) (fun g h => Nat.le_trans hw.size h) (fun _ _ _ h => h))
      rw [hq] at HS
      clear hs hl hl2 hq m0 m1 ht
      go_enter Try.func11, Try.ntmps11
      go_wp2_with fail
      refine (HC.out _).mono ?_
      rintro e w1 ⟨rfl, hg⟩
      have HG1 := hidTrans hg HG0
      have HB1 := bkGrown hg HB0
      have hp1 := HB1.out.prule
      have hs1 := HB1.out.lt
      clear hg
      go_wp2_with fail
      have HG4 : Hid (w.grownBy w1.drew none) := Lib.hid (grownBy_drewN HG1.out 1)
      have HB4 : Hid (Bk w1.drew w.heap.size 24 p.cells) := Lib.hid (HB1.out.drewN 1)
      go_region_held3 (fun w' => ∀ o, w'.cell? ⟨w.heap.size, o, none⟩ = (#[.int .u64 p.P, .int .u64 p.Q, .int .u64 p.G, .int .u64 p.H, .int .i64 p.Nodes, .int .i64 p.N, .int .i64 p.T, .int .i64 p.K, .int .i64 p.D, .int .i64 p.R, .int .i64 p.M, .int .i64 p.X] : Array Value)[o]?) (first | assumption | exact rule_alloc (by assumption) (by assumption) _ | go_keep) (first
        | (go_at_call 32; (with_reducible refine (HS.out _).mono ?_); rintro e' w' ⟨rfl, hg⟩; have HGx := hidTrans hg (by assumption); have HBx := bkGrown hg (by assumption); have hpx := HBx.out.prule; have hsx := HBx.out.lt; clear hg))
      go_wp2_with fail
      refine (HP.out _ HGx.out).mono ?_
      rintro e w3 ⟨v3, rfl, hs3, hg3⟩
      have HFIN := Lib.hid (And.intro hs3 (HGx.out.trans hg3))
      clear hs3 hg3
      go_wp2
      go_ret2
      rw [HE.out.1, HE.out.2]
      exact ⟨_, rfl, HFIN.out.1, HFIN.out.2⟩
    · have HE : Hid (ocE p l.length = 4 ∧ ocL p l = []) := Lib.hid (by simp [ocL, ocE, hs, hl, hq, ht])
      have hd : ((l.length : Int) != (t : Int) * (q : Int)) = true := by simpa using hl
      rw [hq] at HS
      clear hs hl hq m0 m1 ht
      go_enter Try.func11, Try.ntmps11
      go_wp2_with fail
      refine (HC.out _).mono ?_
      rintro e w1 ⟨rfl, hg⟩
      have HG1 := hidTrans hg HG0
      have HB1 := bkGrown hg HB0
      have hp1 := HB1.out.prule
      have hs1 := HB1.out.lt
      clear hg
      go_wp2_with fail
      have HG4 : Hid (w.grownBy w1.drew none) := Lib.hid (grownBy_drewN HG1.out 1)
      have HB4 : Hid (Bk w1.drew w.heap.size 24 p.cells) := Lib.hid (HB1.out.drewN 1)
      go_region_held3 (fun w' => ∀ o, w'.cell? ⟨w.heap.size, o, none⟩ = (#[.int .u64 p.P, .int .u64 p.Q, .int .u64 p.G, .int .u64 p.H, .int .i64 p.Nodes, .int .i64 p.N, .int .i64 p.T, .int .i64 p.K, .int .i64 p.D, .int .i64 p.R, .int .i64 p.M, .int .i64 p.X] : Array Value)[o]?) (first | assumption | exact rule_alloc (by assumption) (by assumption) _ | go_keep) (first
        | (go_at_call 32; (with_reducible refine (HS.out _).mono ?_); rintro e' w' ⟨rfl, hg⟩; have HGx := hidTrans hg (by assumption); have HBx := bkGrown hg (by assumption); have hpx := HBx.out.prule; have hsx := HBx.out.lt; clear hg))
      go_wp2_with fail
      go_ret2
      rw [HE.out.1, HE.out.2]
      exact ⟨_, rfl, Sl.nil _ _ _, HGx.out⟩
/-- What Open tells. -/
def opnE (p : Par) (n : Nat) (k : Int) : Int := if smallB p = true ∧ 0 ≤ k ∧ k ≤ 3 then (if (n : Int) = secI p * (p.T + 1) * (p.T + 1) + 2 * (2 * secI p * k) then 0 else 4) else 1
def opnM (p : Par) (l : List Int) (k : Int) : List (List (List Int)) := if opnE p l.length k = 0 then chk (p.T + 1).toNat (chk (p.T + 1).toNat (l.take ((secI p).toNat * (p.T + 1).toNat * (p.T + 1).toNat)) ((secI p).toNat * (p.T + 1).toNat)) (secI p).toNat else []
def opnA (p : Par) (l : List Int) (k : Int) : List (List (Int × Int)) := if opnE p l.length k = 0 then chk k.toNat (prsI ((l.drop ((secI p).toNat * (p.T + 1).toNat * (p.T + 1).toNat)).take (2 * (secI p).toNat * k.toNat)) ((secI p).toNat * k.toNat)) (secI p).toNat else []
def opnB (p : Par) (l : List Int) (k : Int) : List (List (Int × Int)) := if opnE p l.length k = 0 then chk k.toNat (prsI (l.drop ((secI p).toNat * (p.T + 1).toNat * (p.T + 1).toNat + 2 * (secI p).toNat * k.toNat)) ((secI p).toNat * k.toNat)) (secI p).toNat else []
def Gives4 (Y : Nat → Prop) (w : World) (m : List (List (List Int))) (a b : List (List (Int × Int))) (n : Int) (e : Ending) (w' : World) : Prop :=
  ∃ vm va vb, e = .returned (.tuple #[vm, va, vb, .int .i64 n]) ∧ Sl (encW (encW encU)) Y w' vm m ∧ Sl (encS encP) Y w' va a ∧ Sl (encS encP) Y w' vb b ∧ w.grownBy w' none
set_option maxHeartbeats 1000000 in
theorem open_any (p : Par) (v : Value) (l : List Int) (k : Int) (X : Nat → Prop) (w : World) (h : Sl encU X w v l) (hb : l.length ≤ 1500) (hk : I64 k) :
    Calls Try.prog 5 #[p.v, v, .int .i64 k] w (Gives4 (fun g => w.heap.size ≤ g) w (opnM p l k) (opnA p l k) (opnB p l k) (opnE p l.length k)) := by
  have H := Lib.hid h
  obtain ⟨A, c, rfl, hlc, hcm⟩ := h.form
  have HB0 : Hid (Bk (w.alloc (Obj.cells p.cells 24)) w.heap.size 24 p.cells) := Lib.hid (Bk.new w _ _)
  have HG0 : Hid (w.grownBy (w.alloc (Obj.cells p.cells 24)) none) := Lib.hid (World.grownBy_alloc w _ none)
  have hp0 := HB0.out.prule
  obtain ⟨k0, k1⟩ := hk
  clear h
  cases hs : smallB p with
  | false =>
    have HE : Hid (opnE p l.length k = 1 ∧ opnM p l k = [] ∧ opnA p l k = [] ∧ opnB p l k = []) := Lib.hid (by simp [opnM, opnA, opnB, opnE, hs])
    have HC := Lib.hid (fun w => small_no p w hs)
    clear hs
    go_enter Try.func5, Try.ntmps5
    go_wp2_with fail
    refine (HC.out _).mono ?_
    rintro e w1 ⟨rfl, hg⟩
    have HG := hidTrans hg HG0
    clear hg
    go_wp2
    refine bodyPost_ret (v := .tuple #[.slice none 0 0, .slice none 0 0, .slice none 0 0, .int .i64 1]) (by simp [results, Try.results5, go_sem]) rfl ?_
    rw [HE.out.1, HE.out.2.1, HE.out.2.2.1, HE.out.2.2.2]
    exact ⟨_, _, _, rfl, Sl.nil _ _ _, Sl.nil _ _ _, Sl.nil _ _ _, HG.out⟩
  | true =>
    have HC := Lib.hid (fun w => small_yes p w hs)
    by_cases hk3 : 0 ≤ k ∧ k ≤ 3
    · obtain ⟨k2, k3⟩ := hk3
      have HS := Lib.hid (fun w => secrets_any p w hs)
      obtain ⟨kk, rfl⟩ := Int.eq_ofNat_of_zero_le k2
      obtain ⟨q, t, hq, ht, q1, t1, t2⟩ := sec_nat hs
      obtain ⟨qt, hqt⟩ : ∃ n, n = q * t := ⟨_, rfl⟩
      obtain ⟨F, hF⟩ : ∃ n, n = qt * t := ⟨_, rfl⟩
      obtain ⟨M, hM⟩ : ∃ n, n = 2 * q * kk := ⟨_, rfl⟩
      have bqt : qt ≤ 30 := by rw [hqt]; exact Nat.mul_le_mul q1 t2
      have bF : F ≤ 90 := by rw [hF]; exact Nat.mul_le_mul bqt t2
      have bM : M ≤ 60 := by rw [hM]; exact Nat.mul_le_mul (Nat.mul_le_mul_left 2 q1) (show kk ≤ 3 by omega)
      have k1' : IntKind.i64.wrap (p.T + 1) = (t : Int) := by rw [ht]; exact IntWalk.i64_in _ (by omega)
      have e1 : (q : Int) * (t : Int) = (qt : Int) := by rw [hqt]; simp
      have e2 : (qt : Int) * (t : Int) = (F : Int) := by rw [hF]; simp
      have e3 : 2 * (q : Int) * (kk : Int) = (M : Int) := by rw [hM]; simp
      rw [hq] at HS
      have HC4 : opnE p l.length (kk : Int) = if (l.length : Int) = F + 2 * M then 0 else 4 := by
        simp only [opnE, hs, hq, ht, e1, e2, e3]
        simp [k2, k3]
      have ht1 : (p.T + 1).toNat = t := by omega
      have hq1 : (secI p).toNat = q := by omega
      by_cases hl : (l.length : Int) = F + 2 * M
      · rw [if_pos hl] at HC4
        have HEM : Hid (opnM p l kk = chk t (chk t (l.take F) qt) q) := Lib.hid (by simp only [opnM, HC4, ht1, hq1, if_true]; rw [← hqt, ← hF])
        have HEA : Hid (opnA p l kk = chk kk (prsI ((l.drop F).take M) (q * kk)) q) := Lib.hid (by simp only [opnA, HC4, ht1, hq1, if_true, Int.toNat_natCast]; rw [← hqt, ← hF, ← hM])
        have HEB : Hid (opnB p l kk = chk kk (prsI (l.drop (F + M)) (q * kk)) q) := Lib.hid (by simp only [opnB, HC4, ht1, hq1, if_true, Int.toNat_natCast]; rw [← hqt, ← hF, ← hM])
        have HE0 := Lib.hid HC4
        have hll : l.length = F + 2 * M := by omega
        have hMq : M = (q * kk) * 2 := by rw [hM, Nat.mul_assoc, Nat.mul_comm]
        have hqk : q * kk ≤ 30 := Nat.mul_le_mul q1 (show kk ≤ 3 by omega)
        have hd0 : l.drop F = [] → l.length ≤ F := fun h => by have := congrArg List.length h; simp at this; omega
        by_cases hz : l.length = 0
        · obtain rfl : F = 0 := by omega
          obtain rfl : M = 0 := by omega
          have hl0 : l = [] := List.eq_nil_of_length_eq_zero hz
          have HS1 : Hid (Sl encU X w (.slice A 0 c) (l.take 0)) := Lib.hid (Sl.empty _ _ _ _ _ hcm)
          clear hd0
          by_cases hc0 : c = 0
          · subst hc0
            have e2' : (qt : Int) * (t : Int) = 0 := e2
            have e3' : 2 * (q : Int) * (kk : Int) = 0 := e3
            clear e2 e3 bF bM
            have HS2 : Hid (Sl encU X w (.slice A 0 0) ((l.drop 0).take 0)) := Lib.hid (by rw [hl0]; exact Sl.empty _ _ _ _ _ (by omega))
            have HS3 : Hid (Sl encU X w (.slice A 0 0) (l.drop (0 + 0))) := Lib.hid (by rw [hl0]; exact Sl.empty _ _ _ _ _ (by omega))
            have H1 := Lib.hid (fun (w' : World) (hw : w.grownBy w' none) => cutU_any _ (l.take 0) t qt X (fun g => w.heap.size ≤ g) w' (HS1.out.kept hw) t1 (by rw [List.length_take, ← hF]; simp) (by rw [List.length_take]; omega) (fun g h => Nat.le_trans hw.size h) (fun _ _ _ h => h))
            have H2 := Lib.hid (fun (v : Value) (w' : World) (hw : w.grownBy w' none) (hv : Sl (encW encU) (fun g => w.heap.size ≤ g) w' v (chk t (l.take 0) qt)) => cutR_any v _ t q _ (fun g => w.heap.size ≤ g) w' hv t1 (by rw [chk_length, hqt]) (by rw [chk_length]; omega) (fun g h => Nat.le_trans hw.size h) (fun _ _ _ h => h))
            have H3 := Lib.hid (fun (w' : World) (hw : w.grownBy w' none) => paired_any _ ((l.drop 0).take 0) (q * kk) X w' (HS2.out.kept hw) (by rw [List.length_take, ← hMq]; simp) (by rw [List.length_take, List.length_drop]; omega))
            have H4 := Lib.hid (fun (w' : World) (hw : w.grownBy w' none) => paired_any _ (l.drop (0 + 0)) (q * kk) X w' (HS3.out.kept hw) (by rw [List.length_drop, ← hMq]; omega) (by rw [List.length_drop]; omega))
            have H5 := Lib.hid (fun (v : Value) (ps : List (Int × Int)) (w' : World) (hw : w.grownBy w' none) (Z : Nat → Prop) (hv : Sl encP Z w' v ps) (hps : ps.length = q * kk) => lists_any v ps q kk Z (fun g => w.heap.size ≤ g) w' hv hps (by omega) (by omega) (fun g h => Nat.le_trans hw.size h))
            have hd : ((l.length : Int) != 0) = false := by simpa using hl
            have i1 : (0 : Int) ≤ (l.length : Int) := by omega
            have i2 : (0 : Int) + (0 : Int) ≤ (l.length : Int) := by omega
            have i3 : (l.length : Int) ≤ ((0 : Nat) : Int) := by omega
            have i4 : (0 : Int) + 2 * (0 : Int) ≤ ((0 : Nat) : Int) := by omega
            have HMM := Lib.hid hMq
            clear hs hl hq ht hqt hF hM HC4 ht1 hq1 hll hMq hz hlc
            go_enter Try.func5, Try.ntmps5
            go_wp2_with fail
            refine (HC.out _).mono ?_
            rintro e w1 ⟨rfl, hg⟩
            have HG1 := hidTrans hg HG0
            have HB1 := bkGrown hg HB0
            have hp1 := HB1.out.prule
            have hs1 := HB1.out.lt
            clear hg hp0
            go_wp2_with fail
            have HG4 : Hid (w.grownBy w1.drew none) := Lib.hid (grownBy_drewN HG1.out 1)
            have HB4 : Hid (Bk w1.drew w.heap.size 24 p.cells) := Lib.hid (HB1.out.drewN 1)
            go_region_held3 (fun w' => ∀ o, w'.cell? ⟨w.heap.size, o, none⟩ = (#[.int .u64 p.P, .int .u64 p.Q, .int .u64 p.G, .int .u64 p.H, .int .i64 p.Nodes, .int .i64 p.N, .int .i64 p.T, .int .i64 p.K, .int .i64 p.D, .int .i64 p.R, .int .i64 p.M, .int .i64 p.X] : Array Value)[o]?) (first | assumption | exact rule_alloc (by assumption) (by assumption) _ | go_keep) (first
              | (go_at_call 32; (with_reducible refine (HS.out _).mono ?_); rintro e' w' ⟨rfl, hg⟩; have HGx := hidTrans hg (by assumption); have HBx := bkGrown hg (by assumption); have hpx := HBx.out.prule; have hsx := HBx.out.lt; clear hg))
            go_wp2_with fail
            refine (H1.out _ HGx.out).mono ?_
            rintro e w3 ⟨v3, rfl, hs3, hg3⟩
            have HG3 := Lib.hid (HGx.out.trans hg3)
            have HV3 := Lib.hid hs3
            clear hs3 hg3
            go_wp2_with fail
            refine (H2.out _ _ HG3.out HV3.out).mono ?_
            rintro e w4 ⟨v4, rfl, hs4, hg4⟩
            have HG4 := Lib.hid (HG3.out.trans hg4)
            have HV4 := Lib.hid hs4
            clear hs4 hg4 HV3
            go_wp2_with fail
            refine (H3.out _ HG4.out).mono ?_
            rintro e w5 ⟨v5, rfl, hs5, hg5⟩
            have HG5 := Lib.hid (HG4.out.trans hg5)
            have HV5 := Lib.hid hs5
            have HV4' := Lib.hid (HV4.out.kept hg5)
            clear hs5 hg5 HV4
            go_wp2_with fail
            refine (H5.out _ _ _ HG5.out _ HV5.out (prsI_length _ _)).mono ?_
            rintro e w6 ⟨v6, rfl, hs6, hg6⟩
            have HG6 := Lib.hid (HG5.out.trans hg6)
            have HV6 := Lib.hid hs6
            have HV4 := Lib.hid (HV4'.out.kept hg6)
            clear hs6 hg6 HV4' HV5
            go_wp2_with fail
            refine (H4.out _ HG6.out).mono ?_
            rintro e w7 ⟨v7, rfl, hs7, hg7⟩
            have HG7 := Lib.hid (HG6.out.trans hg7)
            have HV7 := Lib.hid hs7
            have HV4' := Lib.hid (HV4.out.kept hg7)
            have HV6' := Lib.hid (HV6.out.kept hg7)
            clear hs7 hg7 HV4 HV6
            go_wp2_with fail
            refine (H5.out _ _ _ HG7.out _ HV7.out (prsI_length _ _)).mono ?_
            rintro e w8 ⟨v8, rfl, hs8, hg8⟩
            have HG8 := Lib.hid (HG7.out.trans hg8)
            have HV8 := Lib.hid hs8
            have HV4 := Lib.hid (HV4'.out.kept hg8)
            have HV6 := Lib.hid (HV6'.out.kept hg8)
            clear hs8 hg8 HV4' HV6' HV7
            go_wp2
            refine bodyPost_ret (v := .tuple #[v4, v6, v8, .int .i64 0]) (by simp [results, Try.results5, go_sem]) rfl ?_
            rw [HE0.out, HEM.out, HEA.out, HEB.out]
            exact ⟨_, _, _, rfl, HV4.out, HV6.out, HV8.out, HG8.out⟩
          · have x0 : ¬ c = 0 := hc0
            have e2' : (qt : Int) * (t : Int) = 0 := e2
            have e3' : 2 * (q : Int) * (kk : Int) = 0 := e3
            clear e2 e3 bF bM
            have HS2 : Hid (Sl encU X w (.slice A 0 c) ((l.drop 0).take 0)) := Lib.hid (by rw [hl0]; exact Sl.empty _ _ _ _ _ hcm)
            have HS3 : Hid (Sl encU X w (.slice A 0 c) (l.drop (0 + 0))) := Lib.hid (by rw [hl0]; exact Sl.empty _ _ _ _ _ hcm)
            have H1 := Lib.hid (fun (w' : World) (hw : w.grownBy w' none) => cutU_any _ (l.take 0) t qt X (fun g => w.heap.size ≤ g) w' (HS1.out.kept hw) t1 (by rw [List.length_take, ← hF]; simp) (by rw [List.length_take]; omega) (fun g h => Nat.le_trans hw.size h) (fun _ _ _ h => h))
            have H2 := Lib.hid (fun (v : Value) (w' : World) (hw : w.grownBy w' none) (hv : Sl (encW encU) (fun g => w.heap.size ≤ g) w' v (chk t (l.take 0) qt)) => cutR_any v _ t q _ (fun g => w.heap.size ≤ g) w' hv t1 (by rw [chk_length, hqt]) (by rw [chk_length]; omega) (fun g h => Nat.le_trans hw.size h) (fun _ _ _ h => h))
            have H3 := Lib.hid (fun (w' : World) (hw : w.grownBy w' none) => paired_any _ ((l.drop 0).take 0) (q * kk) X w' (HS2.out.kept hw) (by rw [List.length_take, ← hMq]; simp) (by rw [List.length_take, List.length_drop]; omega))
            have H4 := Lib.hid (fun (w' : World) (hw : w.grownBy w' none) => paired_any _ (l.drop (0 + 0)) (q * kk) X w' (HS3.out.kept hw) (by rw [List.length_drop, ← hMq]; omega) (by rw [List.length_drop]; omega))
            have H5 := Lib.hid (fun (v : Value) (ps : List (Int × Int)) (w' : World) (hw : w.grownBy w' none) (Z : Nat → Prop) (hv : Sl encP Z w' v ps) (hps : ps.length = q * kk) => lists_any v ps q kk Z (fun g => w.heap.size ≤ g) w' hv hps (by omega) (by omega) (fun g h => Nat.le_trans hw.size h))
            have hd : ((l.length : Int) != 0) = false := by simpa using hl
            have i1 : (0 : Int) ≤ (l.length : Int) := by omega
            have i2 : (0 : Int) + (0 : Int) ≤ (l.length : Int) := by omega
            have i3 : (l.length : Int) ≤ (c : Int) := by omega
            have i4 : (0 : Int) + 2 * (0 : Int) ≤ (c : Int) := by omega
            have HMM := Lib.hid hMq
            clear hs hl hq ht hqt hF hM HC4 ht1 hq1 hll hMq hz hlc
            go_enter Try.func5, Try.ntmps5
            go_wp2_with fail
            refine (HC.out _).mono ?_
            rintro e w1 ⟨rfl, hg⟩
            have HG1 := hidTrans hg HG0
            have HB1 := bkGrown hg HB0
            have hp1 := HB1.out.prule
            have hs1 := HB1.out.lt
            clear hg hp0
            go_wp2_with fail
            have HG4 : Hid (w.grownBy w1.drew none) := Lib.hid (grownBy_drewN HG1.out 1)
            have HB4 : Hid (Bk w1.drew w.heap.size 24 p.cells) := Lib.hid (HB1.out.drewN 1)
            go_region_held3 (fun w' => ∀ o, w'.cell? ⟨w.heap.size, o, none⟩ = (#[.int .u64 p.P, .int .u64 p.Q, .int .u64 p.G, .int .u64 p.H, .int .i64 p.Nodes, .int .i64 p.N, .int .i64 p.T, .int .i64 p.K, .int .i64 p.D, .int .i64 p.R, .int .i64 p.M, .int .i64 p.X] : Array Value)[o]?) (first | assumption | exact rule_alloc (by assumption) (by assumption) _ | go_keep) (first
              | (go_at_call 32; (with_reducible refine (HS.out _).mono ?_); rintro e' w' ⟨rfl, hg⟩; have HGx := hidTrans hg (by assumption); have HBx := bkGrown hg (by assumption); have hpx := HBx.out.prule; have hsx := HBx.out.lt; clear hg))
            go_wp2_with fail
            refine (H1.out _ HGx.out).mono ?_
            rintro e w3 ⟨v3, rfl, hs3, hg3⟩
            have HG3 := Lib.hid (HGx.out.trans hg3)
            have HV3 := Lib.hid hs3
            clear hs3 hg3
            go_wp2_with fail
            refine (H2.out _ _ HG3.out HV3.out).mono ?_
            rintro e w4 ⟨v4, rfl, hs4, hg4⟩
            have HG4 := Lib.hid (HG3.out.trans hg4)
            have HV4 := Lib.hid hs4
            clear hs4 hg4 HV3
            go_wp2_with fail
            refine (H3.out _ HG4.out).mono ?_
            rintro e w5 ⟨v5, rfl, hs5, hg5⟩
            have HG5 := Lib.hid (HG4.out.trans hg5)
            have HV5 := Lib.hid hs5
            have HV4' := Lib.hid (HV4.out.kept hg5)
            clear hs5 hg5 HV4
            go_wp2_with fail
            refine (H5.out _ _ _ HG5.out _ HV5.out (prsI_length _ _)).mono ?_
            rintro e w6 ⟨v6, rfl, hs6, hg6⟩
            have HG6 := Lib.hid (HG5.out.trans hg6)
            have HV6 := Lib.hid hs6
            have HV4 := Lib.hid (HV4'.out.kept hg6)
            clear hs6 hg6 HV4' HV5
            go_wp2_with fail
            refine (H4.out _ HG6.out).mono ?_
            rintro e w7 ⟨v7, rfl, hs7, hg7⟩
            have HG7 := Lib.hid (HG6.out.trans hg7)
            have HV7 := Lib.hid hs7
            have HV4' := Lib.hid (HV4.out.kept hg7)
            have HV6' := Lib.hid (HV6.out.kept hg7)
            clear hs7 hg7 HV4 HV6
            go_wp2_with fail
            refine (H5.out _ _ _ HG7.out _ HV7.out (prsI_length _ _)).mono ?_
            rintro e w8 ⟨v8, rfl, hs8, hg8⟩
            have HG8 := Lib.hid (HG7.out.trans hg8)
            have HV8 := Lib.hid hs8
            have HV4 := Lib.hid (HV4'.out.kept hg8)
            have HV6 := Lib.hid (HV6'.out.kept hg8)
            clear hs8 hg8 HV4' HV6' HV7
            go_wp2
            refine bodyPost_ret (v := .tuple #[v4, v6, v8, .int .i64 0]) (by simp [results, Try.results5, go_sem]) rfl ?_
            rw [HE0.out, HEM.out, HEA.out, HEB.out]
            exact ⟨_, _, _, rfl, HV4.out, HV6.out, HV8.out, HG8.out⟩
        · obtain ⟨ga, oa, eA, _, _⟩ := H.out.addr (by omega)
          subst eA
          have HS1 : Hid (Sl encU X w (.slice (some ⟨ga, oa, none⟩) F c) (l.take F)) := Lib.hid (H.out.take F (by omega))
          clear hd0
          by_cases hcF : F = c
          · obtain rfl : M = 0 := by omega
            subst hcF
            have e3' : 2 * (q : Int) * (kk : Int) = 0 := e3
            clear e3 bM
            have HS2 : Hid (Sl encU X w (.slice (some ⟨ga, oa, none⟩) 0 0) ((l.drop F).take 0)) := Lib.hid (by rw [List.take_zero]; exact Sl.empty _ _ _ _ _ (by omega))
            have HS3 : Hid (Sl encU X w (.slice (some ⟨ga, oa, none⟩) (l.length - F) 0) (l.drop (F + 0))) := Lib.hid (by rw [List.drop_eq_nil_of_le (by omega), show l.length - F = 0 by omega]; exact Sl.empty _ _ _ _ _ (by omega))
            have H1 := Lib.hid (fun (w' : World) (hw : w.grownBy w' none) => cutU_any _ (l.take F) t qt X (fun g => w.heap.size ≤ g) w' (HS1.out.kept hw) t1 (by rw [List.length_take, ← hF]; omega) (by rw [List.length_take]; omega) (fun g h => Nat.le_trans hw.size h) (fun _ _ _ h => h))
            have H2 := Lib.hid (fun (v : Value) (w' : World) (hw : w.grownBy w' none) (hv : Sl (encW encU) (fun g => w.heap.size ≤ g) w' v (chk t (l.take F) qt)) => cutR_any v _ t q _ (fun g => w.heap.size ≤ g) w' hv t1 (by rw [chk_length, hqt]) (by rw [chk_length]; omega) (fun g h => Nat.le_trans hw.size h) (fun _ _ _ h => h))
            have H3 := Lib.hid (fun (w' : World) (hw : w.grownBy w' none) => paired_any _ ((l.drop F).take 0) (q * kk) X w' (HS2.out.kept hw) (by rw [List.length_take, ← hMq]; simp) (by rw [List.length_take, List.length_drop]; omega))
            have H4 := Lib.hid (fun (w' : World) (hw : w.grownBy w' none) => paired_any _ (l.drop (F + 0)) (q * kk) X w' (HS3.out.kept hw) (by rw [List.length_drop, ← hMq]; omega) (by rw [List.length_drop]; omega))
            have H5 := Lib.hid (fun (v : Value) (ps : List (Int × Int)) (w' : World) (hw : w.grownBy w' none) (Z : Nat → Prop) (hv : Sl encP Z w' v ps) (hps : ps.length = q * kk) => lists_any v ps q kk Z (fun g => w.heap.size ≤ g) w' hv hps (by omega) (by omega) (fun g h => Nat.le_trans hw.size h))
            have hd : ((l.length : Int) != (F : Int)) = false := by simpa using hl
            have i1 : (F : Int) ≤ (l.length : Int) := by omega
            have i2 : (F : Int) + (0 : Int) ≤ (l.length : Int) := by omega
            have i3 : (l.length : Int) ≤ (F : Int) := by omega
            have i4 : (F : Int) + 2 * (0 : Int) ≤ (F : Int) := by omega
            have HMM := Lib.hid hMq
            clear hs hl hq ht hqt hF hM HC4 ht1 hq1 hll hMq hz hlc
            go_enter Try.func5, Try.ntmps5
            go_wp2_with fail
            refine (HC.out _).mono ?_
            rintro e w1 ⟨rfl, hg⟩
            have HG1 := hidTrans hg HG0
            have HB1 := bkGrown hg HB0
            have hp1 := HB1.out.prule
            have hs1 := HB1.out.lt
            clear hg hp0
            go_wp2_with fail
            have HG4 : Hid (w.grownBy w1.drew none) := Lib.hid (grownBy_drewN HG1.out 1)
            have HB4 : Hid (Bk w1.drew w.heap.size 24 p.cells) := Lib.hid (HB1.out.drewN 1)
            go_region_held3 (fun w' => ∀ o, w'.cell? ⟨w.heap.size, o, none⟩ = (#[.int .u64 p.P, .int .u64 p.Q, .int .u64 p.G, .int .u64 p.H, .int .i64 p.Nodes, .int .i64 p.N, .int .i64 p.T, .int .i64 p.K, .int .i64 p.D, .int .i64 p.R, .int .i64 p.M, .int .i64 p.X] : Array Value)[o]?) (first | assumption | exact rule_alloc (by assumption) (by assumption) _ | go_keep) (first
              | (go_at_call 32; (with_reducible refine (HS.out _).mono ?_); rintro e' w' ⟨rfl, hg⟩; have HGx := hidTrans hg (by assumption); have HBx := bkGrown hg (by assumption); have hpx := HBx.out.prule; have hsx := HBx.out.lt; clear hg))
            go_wp2_with fail
            refine (H1.out _ HGx.out).mono ?_
            rintro e w3 ⟨v3, rfl, hs3, hg3⟩
            have HG3 := Lib.hid (HGx.out.trans hg3)
            have HV3 := Lib.hid hs3
            clear hs3 hg3
            go_wp2_with fail
            refine (H2.out _ _ HG3.out HV3.out).mono ?_
            rintro e w4 ⟨v4, rfl, hs4, hg4⟩
            have HG4 := Lib.hid (HG3.out.trans hg4)
            have HV4 := Lib.hid hs4
            clear hs4 hg4 HV3
            go_wp2_with fail
            refine (H3.out _ HG4.out).mono ?_
            rintro e w5 ⟨v5, rfl, hs5, hg5⟩
            have HG5 := Lib.hid (HG4.out.trans hg5)
            have HV5 := Lib.hid hs5
            have HV4' := Lib.hid (HV4.out.kept hg5)
            clear hs5 hg5 HV4
            go_wp2_with fail
            refine (H5.out _ _ _ HG5.out _ HV5.out (prsI_length _ _)).mono ?_
            rintro e w6 ⟨v6, rfl, hs6, hg6⟩
            have HG6 := Lib.hid (HG5.out.trans hg6)
            have HV6 := Lib.hid hs6
            have HV4 := Lib.hid (HV4'.out.kept hg6)
            clear hs6 hg6 HV4' HV5
            go_wp2_with fail
            refine (H4.out _ HG6.out).mono ?_
            rintro e w7 ⟨v7, rfl, hs7, hg7⟩
            have HG7 := Lib.hid (HG6.out.trans hg7)
            have HV7 := Lib.hid hs7
            have HV4' := Lib.hid (HV4.out.kept hg7)
            have HV6' := Lib.hid (HV6.out.kept hg7)
            clear hs7 hg7 HV4 HV6
            go_wp2_with fail
            refine (H5.out _ _ _ HG7.out _ HV7.out (prsI_length _ _)).mono ?_
            rintro e w8 ⟨v8, rfl, hs8, hg8⟩
            have HG8 := Lib.hid (HG7.out.trans hg8)
            have HV8 := Lib.hid hs8
            have HV4 := Lib.hid (HV4'.out.kept hg8)
            have HV6 := Lib.hid (HV6'.out.kept hg8)
            clear hs8 hg8 HV4' HV6' HV7
            go_wp2
            refine bodyPost_ret (v := .tuple #[v4, v6, v8, .int .i64 0]) (by simp [results, Try.results5, go_sem]) rfl ?_
            rw [HE0.out, HEM.out, HEA.out, HEB.out]
            exact ⟨_, _, _, rfl, HV4.out, HV6.out, HV8.out, HG8.out⟩
          · have hcF' : ¬ c = F := fun e => hcF e.symm
            have x1 : ¬ c = F := hcF'
            have x2 : ¬ c = F + M := by omega
            clear hcF
            have HS2 : Hid (Sl encU X w (.slice (some ⟨ga, oa + F, none⟩) M (c - F)) ((l.drop F).take M)) := Lib.hid (by
              have := (H.out.drop F (by omega)).take M (by rw [List.length_drop]; omega)
              rwa [show F * encU.size = F from Nat.mul_one F] at this)
            have HS3 : Hid (Sl encU X w (.slice (some ⟨ga, oa + (F + M), none⟩) (l.length - (F + M)) (c - (F + M))) (l.drop (F + M))) := Lib.hid (by
              have := H.out.drop (F + M) (by omega)
              rwa [show (F + M) * encU.size = F + M from Nat.mul_one (F + M)] at this)
            have H1 := Lib.hid (fun (w' : World) (hw : w.grownBy w' none) => cutU_any _ (l.take F) t qt X (fun g => w.heap.size ≤ g) w' (HS1.out.kept hw) t1 (by rw [List.length_take, ← hF]; omega) (by rw [List.length_take]; omega) (fun g h => Nat.le_trans hw.size h) (fun _ _ _ h => h))
            have H2 := Lib.hid (fun (v : Value) (w' : World) (hw : w.grownBy w' none) (hv : Sl (encW encU) (fun g => w.heap.size ≤ g) w' v (chk t (l.take F) qt)) => cutR_any v _ t q _ (fun g => w.heap.size ≤ g) w' hv t1 (by rw [chk_length, hqt]) (by rw [chk_length]; omega) (fun g h => Nat.le_trans hw.size h) (fun _ _ _ h => h))
            have H3 := Lib.hid (fun (w' : World) (hw : w.grownBy w' none) => paired_any _ ((l.drop F).take M) (q * kk) X w' (HS2.out.kept hw) (by rw [List.length_take, List.length_drop, ← hMq]; omega) (by rw [List.length_take, List.length_drop]; omega))
            have H4 := Lib.hid (fun (w' : World) (hw : w.grownBy w' none) => paired_any _ (l.drop (F + M)) (q * kk) X w' (HS3.out.kept hw) (by rw [List.length_drop, ← hMq]; omega) (by rw [List.length_drop]; omega))
            have H5 := Lib.hid (fun (v : Value) (ps : List (Int × Int)) (w' : World) (hw : w.grownBy w' none) (Z : Nat → Prop) (hv : Sl encP Z w' v ps) (hps : ps.length = q * kk) => lists_any v ps q kk Z (fun g => w.heap.size ≤ g) w' hv hps (by omega) (by omega) (fun g h => Nat.le_trans hw.size h))
            have hd : ((l.length : Int) != (F : Int) + 2 * (M : Int)) = false := by simpa using hl
            have i1 : (F : Int) ≤ (l.length : Int) := by omega
            have i2 : (F : Int) + (M : Int) ≤ (l.length : Int) := by omega
            have i3 : (l.length : Int) ≤ (c : Int) := by omega
            have i4 : (F : Int) + 2 * (M : Int) ≤ (c : Int) := by omega
            have HMM := Lib.hid hMq
            clear hs hl hq ht hqt hF hM HC4 ht1 hq1 hll hMq hz hlc
            go_enter Try.func5, Try.ntmps5
            go_wp2_with fail
            refine (HC.out _).mono ?_
            rintro e w1 ⟨rfl, hg⟩
            have HG1 := hidTrans hg HG0
            have HB1 := bkGrown hg HB0
            have hp1 := HB1.out.prule
            have hs1 := HB1.out.lt
            clear hg hp0
            go_wp2_with fail
            have HG4 : Hid (w.grownBy w1.drew none) := Lib.hid (grownBy_drewN HG1.out 1)
            have HB4 : Hid (Bk w1.drew w.heap.size 24 p.cells) := Lib.hid (HB1.out.drewN 1)
            go_region_held3 (fun w' => ∀ o, w'.cell? ⟨w.heap.size, o, none⟩ = (#[.int .u64 p.P, .int .u64 p.Q, .int .u64 p.G, .int .u64 p.H, .int .i64 p.Nodes, .int .i64 p.N, .int .i64 p.T, .int .i64 p.K, .int .i64 p.D, .int .i64 p.R, .int .i64 p.M, .int .i64 p.X] : Array Value)[o]?) (first | assumption | exact rule_alloc (by assumption) (by assumption) _ | go_keep) (first
              | (go_at_call 32; (with_reducible refine (HS.out _).mono ?_); rintro e' w' ⟨rfl, hg⟩; have HGx := hidTrans hg (by assumption); have HBx := bkGrown hg (by assumption); have hpx := HBx.out.prule; have hsx := HBx.out.lt; clear hg))
            go_wp2_with fail
            refine (H1.out _ HGx.out).mono ?_
            rintro e w3 ⟨v3, rfl, hs3, hg3⟩
            have HG3 := Lib.hid (HGx.out.trans hg3)
            have HV3 := Lib.hid hs3
            clear hs3 hg3
            go_wp2_with fail
            refine (H2.out _ _ HG3.out HV3.out).mono ?_
            rintro e w4 ⟨v4, rfl, hs4, hg4⟩
            have HG4 := Lib.hid (HG3.out.trans hg4)
            have HV4 := Lib.hid hs4
            clear hs4 hg4 HV3
            go_wp2_with fail
            refine (H3.out _ HG4.out).mono ?_
            rintro e w5 ⟨v5, rfl, hs5, hg5⟩
            have HG5 := Lib.hid (HG4.out.trans hg5)
            have HV5 := Lib.hid hs5
            have HV4' := Lib.hid (HV4.out.kept hg5)
            clear hs5 hg5 HV4
            go_wp2_with fail
            refine (H5.out _ _ _ HG5.out _ HV5.out (prsI_length _ _)).mono ?_
            rintro e w6 ⟨v6, rfl, hs6, hg6⟩
            have HG6 := Lib.hid (HG5.out.trans hg6)
            have HV6 := Lib.hid hs6
            have HV4 := Lib.hid (HV4'.out.kept hg6)
            clear hs6 hg6 HV4' HV5
            go_wp2_with fail
            refine (H4.out _ HG6.out).mono ?_
            rintro e w7 ⟨v7, rfl, hs7, hg7⟩
            have HG7 := Lib.hid (HG6.out.trans hg7)
            have HV7 := Lib.hid hs7
            have HV4' := Lib.hid (HV4.out.kept hg7)
            have HV6' := Lib.hid (HV6.out.kept hg7)
            clear hs7 hg7 HV4 HV6
            go_wp2_with fail
            refine (H5.out _ _ _ HG7.out _ HV7.out (prsI_length _ _)).mono ?_
            rintro e w8 ⟨v8, rfl, hs8, hg8⟩
            have HG8 := Lib.hid (HG7.out.trans hg8)
            have HV8 := Lib.hid hs8
            have HV4 := Lib.hid (HV4'.out.kept hg8)
            have HV6 := Lib.hid (HV6'.out.kept hg8)
            clear hs8 hg8 HV4' HV6' HV7
            go_wp2
            refine bodyPost_ret (v := .tuple #[v4, v6, v8, .int .i64 0]) (by simp [results, Try.results5, go_sem]) rfl ?_
            rw [HE0.out, HEM.out, HEA.out, HEB.out]
            exact ⟨_, _, _, rfl, HV4.out, HV6.out, HV8.out, HG8.out⟩
      · have HC5 : opnE p l.length (kk : Int) = 4 := by rw [HC4, if_neg hl]
        have HEM : Hid (opnE p l.length (kk : Int) = 4 ∧ opnM p l kk = [] ∧ opnA p l kk = [] ∧ opnB p l kk = []) := Lib.hid (by simp [opnM, opnA, opnB, HC5])
        have hd : ((l.length : Int) != (F : Int) + 2 * (M : Int)) = true := by simpa using hl
        clear hs hl hq ht hqt hF hM HC4 HC5 ht1 hq1 hlc
        go_enter Try.func5, Try.ntmps5
        go_wp2_with fail
        refine (HC.out _).mono ?_
        rintro e w1 ⟨rfl, hg⟩
        have HG1 := hidTrans hg HG0
        have HB1 := bkGrown hg HB0
        have hp1 := HB1.out.prule
        have hs1 := HB1.out.lt
        clear hg hp0
        go_wp2_with fail
        have HG4 : Hid (w.grownBy w1.drew none) := Lib.hid (grownBy_drewN HG1.out 1)
        have HB4 : Hid (Bk w1.drew w.heap.size 24 p.cells) := Lib.hid (HB1.out.drewN 1)
        go_region_held3 (fun w' => ∀ o, w'.cell? ⟨w.heap.size, o, none⟩ = (#[.int .u64 p.P, .int .u64 p.Q, .int .u64 p.G, .int .u64 p.H, .int .i64 p.Nodes, .int .i64 p.N, .int .i64 p.T, .int .i64 p.K, .int .i64 p.D, .int .i64 p.R, .int .i64 p.M, .int .i64 p.X] : Array Value)[o]?) (first | assumption | exact rule_alloc (by assumption) (by assumption) _ | go_keep) (first
          | (go_at_call 32; (with_reducible refine (HS.out _).mono ?_); rintro e' w' ⟨rfl, hg⟩; have HGx := hidTrans hg (by assumption); have HBx := bkGrown hg (by assumption); have hpx := HBx.out.prule; have hsx := HBx.out.lt; clear hg))
        go_wp2
        refine bodyPost_ret (v := .tuple #[.slice none 0 0, .slice none 0 0, .slice none 0 0, .int .i64 4]) (by simp [results, Try.results5, go_sem]) rfl ?_
        rw [HEM.out.1, HEM.out.2.1, HEM.out.2.2.1, HEM.out.2.2.2]
        exact ⟨_, _, _, rfl, Sl.nil _ _ _, Sl.nil _ _ _, Sl.nil _ _ _, HGx.out⟩
    · have HE : Hid (opnE p l.length k = 1 ∧ opnM p l k = [] ∧ opnA p l k = [] ∧ opnB p l k = []) := Lib.hid (by simp only [opnM, opnA, opnB, opnE]; simp [hs, hk3])
      have hp1 : True := trivial
      clear hs
      by_cases hkn : 0 ≤ k
      · have hkx : 3 < k := by omega
        clear hk3
        go_enter Try.func5, Try.ntmps5
        go_wp2_with fail
        refine (HC.out _).mono ?_
        rintro e w1 ⟨rfl, hg⟩
        have HG := hidTrans hg HG0
        clear hg
        go_wp2
        refine bodyPost_ret (v := .tuple #[.slice none 0 0, .slice none 0 0, .slice none 0 0, .int .i64 1]) (by simp [results, Try.results5, go_sem]) rfl ?_
        rw [HE.out.1, HE.out.2.1, HE.out.2.2.1, HE.out.2.2.2]
        exact ⟨_, _, _, rfl, Sl.nil _ _ _, Sl.nil _ _ _, Sl.nil _ _ _, HG.out⟩
      · have hkx : k < 0 := by omega
        clear hk3 hkn
        go_enter Try.func5, Try.ntmps5
        go_wp2_with fail
        refine (HC.out _).mono ?_
        rintro e w1 ⟨rfl, hg⟩
        have HG := hidTrans hg HG0
        clear hg
        go_wp2
        refine bodyPost_ret (v := .tuple #[.slice none 0 0, .slice none 0 0, .slice none 0 0, .int .i64 1]) (by simp [results, Try.results5, go_sem]) rfl ?_
        rw [HE.out.1, HE.out.2.1, HE.out.2.2.1, HE.out.2.2.2]
        exact ⟨_, _, _, rfl, Sl.nil _ _ _, Sl.nil _ _ _, Sl.nil _ _ _, HG.out⟩
end Go.Proofs.Ytoibeeecmkpdpaa
