/- consistoryref18: lists, OpenPairs, OpenComs, Open, walked. -/
import Derived.Test.YtoibeeecmkpdpaaDealB
namespace Go.Proofs.Ytoibeeecmkpdpaa
open Go.RowKit

theorem prsI_at (l : List Int) (k i : Nat) (hi : i < k) (h : i < (prsI l k).length) : (prsI l k)[i] = pairOf ((l.drop (i * 2)).take 2) := by
  simp [prsI, chk]
theorem pair_at (l : List Int) (i : Nat) (h : i + 1 < l.length) : pairOf ((l.drop i).take 2) = (l[i], l[i + 1]) := by
  simp [pairOf, List.getElem?_take, h, show i < l.length by omega]
/-- One pair more of a list's piece. -/
theorem piece_snoc (l : List Int) (N s k j : Nat) (h1 : s * k + j < N) (h2 : (s * k + j) * 2 + 1 < l.length) :
    ((prsI l N).drop (s * k)).take (j + 1) = ((prsI l N).drop (s * k)).take j ++ [(l[(s * k + j) * 2], l[(s * k + j) * 2 + 1])] := by
  have hl : j < ((prsI l N).drop (s * k)).length := by rw [List.length_drop, prsI_length]; omega
  rw [List.take_succ_eq_append_getElem hl, List.getElem_drop, prsI_at _ _ _ h1, pair_at _ _ h2]
set_option maxHeartbeats 1000000 in
theorem rlists_any (p : Par) (v : Value) (l : List Int) (q k : Nat) (X : Nat → Prop) (w : World) (hs : smallB p = true) (hq : secI p = (q : Int)) (hq1 : q ≤ 10) (h : Sl encU X w v l) (hl : (q * k) * 2 ≤ l.length) (hk : k ≤ 3) :
    Calls Try.prog 39 #[p.v, v, .int .i64 k] w fun e w' => ∃ v1 v2, e = .returned (.tuple #[v1, v2]) ∧ Sl (encS encP) (fun g => w.heap.size ≤ g) w' v1 (chk k (prsI l (q * k)) q) ∧ Sl encU X w v2 (l.drop ((q * k) * 2)) ∧ w.grownBy w' none := by
  have HSec := Lib.hid (fun w => rsecrets_any p w hs)
  rw [hq] at HSec
  have HL := Lib.hid hl
  have HB0 : Hid (Bk (w.alloc (Obj.cells p.cells 24)) w.heap.size 24 p.cells) := Lib.hid (Bk.new w _ _)
  have HST : Hid (Sl encU X w v (l.drop ((0 * k) * 2)) ∧ Acc (encS encP) w.heap.size 33 (fun g => w.heap.size ≤ g) (w.alloc (Obj.cells p.cells 24)) (.slice none 0 0) (chk k (prsI l (q * k)) 0) ∧ w.grownBy (w.alloc (Obj.cells p.cells 24)) none ∧ Bk (w.alloc (Obj.cells p.cells 24)) w.heap.size 24 p.cells) := Lib.hid ⟨by simpa using h, Acc.nil _ _ _ _ _, World.grownBy_alloc w _ none, HB0.out⟩
  clear h hl hs hq HB0
  go_enter Try.func39, Try.ntmps39
  go_wp2_with fail
  go_loopg [1, 8, 9] q (fun g s1 s8 s9 wx => ∃ s : Nat, s + g = q ∧ s9 = .int .i64 s ∧ Hid (Sl encU X w s1 (l.drop ((s * k) * 2)) ∧ Acc (encS encP) w.heap.size 33 (fun g => w.heap.size ≤ g) wx s8 (chk k (prsI l (q * k)) s) ∧ w.grownBy wx none ∧ Bk wx w.heap.size 24 p.cells))
  case atStart => exact ⟨0, by omega, rfl, HST⟩
  case round =>
    obtain ⟨s, hsq, rfl, HX⟩ := hrel
    cases gk with
    | zero =>
      obtain rfl : s = q := by omega
      have hp := HX.out.2.2.2.prule
      go_wp2_with fail
      refine (HSec.out _).mono ?_
      rintro e w1 ⟨rfl, hg⟩
      have HR : Hid (Sl (encS encP) (fun g => w.heap.size ≤ g) w1 u8 (chk k (prsI l (s * k)) s) ∧ Sl encU X w u1 (l.drop ((s * k) * 2)) ∧ w.grownBy w1 none) := Lib.hid ⟨(HX.out.2.1.kept hg).sl, HX.out.1, HX.out.2.2.1.trans hg⟩
      clear HX HST hg hp
      go_wp2
      go_ret2
      exact ⟨_, _, rfl, HR.out.1, HR.out.2.1, HR.out.2.2⟩
    | succ m =>
      have hp := HX.out.2.2.2.prule
      have hlt : (s : Int) < (q : Int) := by omega
      go_wp2_with fail
      refine (HSec.out _).mono ?_
      rintro e w1 ⟨rfl, hg⟩
      have hcl := chk_length k (prsI l (q * k)) s
      have HY : Hid (Acc (encS encP) w.heap.size 33 (fun g => w.heap.size ≤ g) w1 u8 (chk k (prsI l (q * k)) s) ∧ w.grownBy w1 none ∧ Bk w1 w.heap.size 24 p.cells) := Lib.hid ⟨HX.out.2.1.kept hg, HX.out.2.2.1.trans hg, HX.out.2.2.2.grown hg (by simp)⟩
      have HIN : Hid (Sl encU X w u1 (l.drop ((s * k + 0) * 2)) ∧ Acc encP w1.heap.size 60 (fun g => w1.heap.size ≤ g) w1 (.slice none 0 0) (((prsI l (q * k)).drop (s * k)).take 0) ∧ w1.grownBy w1 none) := Lib.hid ⟨HX.out.1, Acc.nil _ _ _ _ _, World.grownBy.refl _ _⟩
      have HCL := Lib.hid hcl
      clear HX HST hg hp hcl
      go_wp2_with fail
      go_loopg [1, 10, 11] k (fun g s1 s10 s11 wx => ∃ j : Nat, j + g = k ∧ s11 = .int .i64 j ∧ Hid (Sl encU X w s1 (l.drop ((s * k + j) * 2)) ∧ Acc encP w1.heap.size 60 (fun g => w1.heap.size ≤ g) wx s10 (((prsI l (q * k)).drop (s * k)).take j) ∧ w1.grownBy wx none))
      case atStart => exact ⟨0, by omega, rfl, HIN⟩
      case round =>
        obtain ⟨j, hj, rfl, HX⟩ := hrel
        cases gk with
        | zero =>
          obtain rfl : j = k := by omega
          obtain ⟨hs1, hacc, hg⟩ := HX.out
          have hTL : (((prsI l (q * j)).drop (s * j)).take j).length = j := by
            have : (s + 1) * j ≤ q * j := Nat.mul_le_mul_right j (by omega)
            rw [Nat.add_mul, Nat.one_mul] at this
            rw [List.length_take, List.length_drop, prsI_length]
            omega
          obtain ⟨A, c, e0, _, _⟩ := hacc.sl.form
          rw [hTL] at e0
          subst e0
          have HOW := HY.out.1.lt
          have HREP : Hid (Enc.rep (encS encP) (fun g => w.heap.size ≤ g ∧ some g ≠ u8.ownBlock) wr [.slice A j c] (((prsI l (q * j)).drop (s * j)).take j)) := Lib.hid ⟨_, rfl, hacc.sl.more fun g _ hgX => ⟨Nat.le_trans HY.out.2.1.size hgX, fun e => by have := (HOW g e.symm).2; omega⟩⟩
          have HAC := Lib.hid (HY.out.1.kept hg)
          have HG := Lib.hid (HY.out.2.1.trans hg)
          have HBp := Lib.hid (HY.out.2.2.grown hg (by simp))
          have HLB : Hid (((chk j (prsI l (q * j)) s).length + 1) * 24 ≤ 140737488355328) := Lib.hid (by rw [HCL.out]; omega)
          have HN1 : Hid (Sl encU X w u1 (l.drop (((s + 1) * j) * 2))) := Lib.hid (by rw [Nat.add_mul s 1 j, Nat.one_mul]; exact hs1)
          have HSN := Lib.hid (chk_succ j (prsI l (q * j)) s)
          clear hs1 hacc hg HX HIN hTL HOW
          go_wp2_with (at_builtin; refine wpList_pushG rfl (.tmp 35) (.tmp 37) rfl (E := encS encP) el_pairs HG.out HAC.out (fun _ h => h) HREP.out HLB.out rfl rfl ?_)
          intro v2 w2 hacc2 hg2 hgo
          have HFIN : Hid (Sl encU X w u1 (l.drop (((s + 1) * j) * 2)) ∧ Acc (encS encP) w.heap.size 33 (fun g => w.heap.size ≤ g) w2 v2 (chk j (prsI l (q * j)) (s + 1)) ∧ w.grownBy w2 none ∧ Bk w2 w.heap.size 24 p.cells) :=
            Lib.hid ⟨HN1.out, by rw [HSN.out]; exact hacc2, hg2, HBp.out.grown hgo (fun e => HAC.out.ne_bk HBp.out (by decide) e.symm)⟩
          clear hacc2 hg2 hgo
          go_wp2_with fail
          go_roundg m
          case measure => omega
          case rel => exact ⟨s + 1, by omega, by go_num, HFIN⟩
        | succ n =>
          obtain ⟨hs1, hacc, hg⟩ := HX.out
          have hjk : (j : Int) < (j + (n + 1) : Nat) := by omega
          have hi1 : s * k + j + 1 ≤ q * k := by
            have : (s + 1) * k ≤ q * k := Nat.mul_le_mul_right k (by omega)
            rw [Nat.add_mul, Nat.one_mul] at this
            omega
          have hlen := HL.out
          have hd : (l.drop ((s * k + j) * 2)).length = l.length - (s * k + j) * 2 := List.length_drop
          obtain ⟨A, c, e0, hc1, hc2⟩ := hs1.form
          subst e0
          obtain ⟨ga, oa, eA, hga, _⟩ := hs1.addr (by omega)
          subst eA
          rw [hd] at hc1 ⊢
          have hx0 : (s * k + j) * 2 < l.length := by omega
          have hx1 : (s * k + j) * 2 + 1 < l.length := by omega
          have HCE : Hid (∀ w', w.grownBy w' none → w'.cell? ⟨ga, oa, none⟩ = some (.int .u64 l[(s * k + j) * 2]) ∧ w'.cell? ⟨ga, oa + 1, none⟩ = some (.int .u64 l[(s * k + j) * 2 + 1])) := Lib.hid (fun w' hw => by
            have hk' := hs1.kept hw
            obtain ⟨g1, o1, c1, e1, _, _, a1, _⟩ := hk'.atU (k := 0) (by rw [hd]; omega)
            injection e1 with e1
            injection e1 with e1
            injection e1 with e1 e2
            subst e1 e2
            obtain ⟨g1, o1, c1, e1, _, _, a2, _⟩ := hk'.atU (k := 1) (by rw [hd]; omega)
            injection e1 with e1
            injection e1 with e1
            injection e1 with e1 e2
            subst e1 e2
            rw [List.getElem_drop] at a1 a2
            exact ⟨a1, a2⟩)
          have HUU : Hid (U64 l[(s * k + j) * 2] ∧ U64 l[(s * k + j) * 2 + 1]) := Lib.hid (by
            obtain ⟨_, _, _, _, _, _, _, a1⟩ := hs1.atU (k := 0) (by rw [hd]; omega)
            obtain ⟨_, _, _, _, _, _, _, a2⟩ := hs1.atU (k := 1) (by rw [hd]; omega)
            rw [List.getElem_drop] at a1 a2
            exact ⟨a1, a2⟩)
          have HSN := Lib.hid (piece_snoc l (q * k) s k j (by omega) hx1)
          have HDR : Hid (Sl encU X w (.slice (some ⟨ga, oa + 2, none⟩) (l.length - (s * k + j) * 2 - 2) (c - 2)) (l.drop ((s * k + (j + 1)) * 2))) := Lib.hid (by
            rw [hd] at hs1
            have := hs1.drop 2 (by omega)
            rwa [List.drop_drop, show (s * k + j) * 2 + 2 = (s * k + (j + 1)) * 2 by omega] at this)
          have HDE : Hid (c = 2 → l.length - (s * k + j) * 2 - 2 = 0 ∧ l.drop ((s * k + (j + 1)) * 2) = []) := Lib.hid (fun e => ⟨by omega, List.drop_eq_nil_of_le (by omega)⟩)
          have HAd : Hid (Acc encP w1.heap.size 60 (fun g => w1.heap.size ≤ g) wr.drew u10 (((prsI l (q * k)).drop (s * k)).take j)) := Lib.hid (hacc.kept (grownBy_drewN (World.grownBy.refl wr none) 1))
          have HGd : Hid (w1.grownBy wr.drew none) := Lib.hid (grownBy_drewN hg 1)
          have HG0 : Hid (w.grownBy wr none) := Lib.hid (HY.out.2.1.trans hg)
          obtain ⟨c0, c1⟩ := HCE.out wr HG0.out
          obtain ⟨y0, hy0⟩ : ∃ y, y = l[(s * k + j) * 2] := ⟨_, rfl⟩
          obtain ⟨y1, hy1⟩ : ∃ y, y = l[(s * k + j) * 2 + 1] := ⟨_, rfl⟩
          rw [← hy0, ← hy1] at HCE HUU HSN
          rw [← hy0] at c0
          rw [← hy1] at c1
          obtain ⟨d0, d1⟩ := HCE.out (wr.drew.alloc (Obj.cells #[.int .u64 y0, .int .u64 y1] 60)) ((grownBy_drewN HG0.out 1).trans (World.grownBy_alloc _ _ none))
          have HLB : Hid (((((prsI l (q * k)).drop (s * k)).take j).length + 1) * 16 ≤ 140737488355328) := Lib.hid (by
            rw [List.length_take]
            omega)
          obtain ⟨L, hL⟩ : ∃ L, L = l.length - (s * k + j) * 2 := ⟨_, rfl⟩
          rw [← hL] at hc1 HDR HDE ⊢
          have hL2 : 2 ≤ L := by omega
          have hL0 : 0 < L := by omega
          have hL1 : 1 < L := by omega
          have i1 : (0 : Int) < (L : Int) := by omega
          have i2 : (1 : Int) < (L : Int) := by omega
          have i3 : (2 : Int) ≤ (L : Int) := by omega
          have i4 : (2 : Int) ≤ (c : Int) := by omega
          have i5 : (j : Int) < (k : Int) := by omega
          clear hs1 hacc hg HX HIN hd hlen hy0 hy1 hL hx0 hx1 hi1 hjk
          go_wp2_with fail
          go_region_held3 (fun w' => w'.cell? ⟨ga, oa, none⟩ = some (.int .u64 y0) ∧ w'.cell? ⟨ga, oa + 1, none⟩ = some (.int .u64 y1))
            (first | (exact ⟨by assumption, by assumption⟩) | go_keep)
            ((refine step_pushG rfl (.tmp 23) (.tmp 31) rfl (E := encP) (y := (y0, y1)) el_pair HGd.out HAd.out (fun _ h => h) ⟨rfl, HUU.out⟩ HLB.out rfl rfl ?_; intro v3 w3 hacc3 hg3 hgo3; have HA3 := Lib.hid hacc3; have HG3 := Lib.hid hg3; obtain ⟨f0, f1⟩ := HCE.out w3 (HY.out.2.1.trans hg3); clear hacc3 hg3 hgo3))
          have HFIN : Hid (Acc encP w1.heap.size 60 (fun g => w1.heap.size ≤ g) w3 v3 (((prsI l (q * k)).drop (s * k)).take (j + 1)) ∧ w1.grownBy w3 none) := Lib.hid ⟨by rw [HSN.out]; exact HA3.out, HG3.out⟩
          clear HA3 HG3
          go_wp2_with fail
          all_goals
            go_roundg n
            case measure => omega
            case rel => first | exact ⟨j + 1, by omega, by go_num, Lib.hid ⟨HDR.out, HFIN.out.1, HFIN.out.2⟩⟩ | exact ⟨j + 1, by omega, by go_num, Lib.hid ⟨by rw [(HDE.out (by assumption)).1, (HDE.out (by assumption)).2]; exact Sl.empty _ _ _ _ _ (by omega), HFIN.out.1, HFIN.out.2⟩⟩
set_option maxHeartbeats 1000000 in
theorem ropenPairs_any (p : Par) (v : Value) (l : List Int) (X : Nat → Prop) (w : World) (h : Sl encU X w v l) (hb : l.length ≤ 1500) :
    Calls Try.prog 10 #[p.v, v] w (GivesE encP (fun g => w.heap.size ≤ g) w (opL p l) (opE p l.length)) := by
  have H := Lib.hid h
  obtain ⟨A, c, rfl, _, _⟩ := h.form
  have HB0 : Hid (Bk (w.alloc (Obj.cells p.cells 24)) w.heap.size 24 p.cells) := Lib.hid (Bk.new w _ _)
  have HG0 : Hid (w.grownBy (w.alloc (Obj.cells p.cells 24)) none) := Lib.hid (World.grownBy_alloc w _ none)
  clear h
  cases hs : smallB p with
  | false =>
    have HE : Hid (opE p l.length = 1 ∧ opL p l = []) := Lib.hid (by simp [opL, opE, hs])
    have HC := Lib.hid (fun w => rsmall_no p w hs)
    clear hs
    go_enter Try.func10, Try.ntmps10
    go_wp2_with fail
    refine (HC.out _).mono ?_
    rintro e w1 ⟨rfl, hg⟩
    have HG := hidTrans hg HG0
    clear hg
    go_wp2
    go_ret2
    rw [HE.out.1, HE.out.2]
    exact ⟨_, rfl, Sl.nil _ _ _, HG.out⟩
  | true =>
    have HC := Lib.hid (fun w => rsmall_yes p w hs)
    have HS := Lib.hid (fun w => rsecrets_any p w hs)
    obtain ⟨q, t, hq, ht, q1, t1, t2⟩ := sec_nat hs
    rw [hq] at HS
    by_cases hl : (l.length : Int) = 2 * (q : Int)
    · have HE : Hid (opE p l.length = 0 ∧ opL p l = prsI l q) := Lib.hid (by simp [opL, opE, hs, hl, hq])
      have hd : ((l.length : Int) != 2 * (q : Int)) = false := by simpa using hl
      have hll : l.length = 2 * q := by omega
      have HLL := Lib.hid hll
      clear hs hl hq ht hll
      go_enter Try.func10, Try.ntmps10
      go_wp2_with fail
      refine (HC.out _).mono ?_
      rintro e w1 ⟨rfl, hg⟩
      have HG1 := hidTrans hg HG0
      have HB1 := bkGrown hg HB0
      have hp1 := HB1.out.prule
      clear hg
      go_wp2_with fail
      refine (HS.out _).mono ?_
      rintro e w2 ⟨rfl, hg⟩
      have HST : Hid (Acc encP w.heap.size 60 (fun g => w.heap.size ≤ g) w2 (.slice none 0 0) ((prsI l q).take 0) ∧ w.grownBy w2 none) := Lib.hid ⟨Acc.nil _ _ _ _ _, HG1.out.trans hg⟩
      clear hg hp1
      go_wp2_with fail
      go_loopg [6, 7] q (fun g s6 s7 wx => ∃ j : Nat, j + g = q ∧ s7 = .int .i64 ((j : Int) * 2) ∧ Hid (Acc encP w.heap.size 60 (fun g => w.heap.size ≤ g) wx s6 ((prsI l q).take j) ∧ w.grownBy wx none))
      case atStart => exact ⟨0, by omega, by simp, HST⟩
      case round =>
        obtain ⟨j, hj, rfl, HX⟩ := hrel
        have hlle := HLL.out
        cases gk with
        | zero =>
          obtain rfl : j = q := by omega
          have hnl : ¬ (j : Int) * 2 < (l.length : Int) := by omega
          have HR : Hid (Sl encP (fun g => w.heap.size ≤ g) wr u6 (prsI l j) ∧ w.grownBy wr none) := Lib.hid ⟨by have := HX.out.1.sl; rwa [List.take_of_length_le (by rw [prsI_length]; omega)] at this, HX.out.2⟩
          clear HX HST hlle
          go_wp2
          go_ret2
          rw [HE.out.1, HE.out.2]
          exact ⟨_, rfl, HR.out.1, HR.out.2⟩
        | succ n =>
          obtain ⟨hacc, hg⟩ := HX.out
          have hx0 : j * 2 < l.length := by omega
          have hx1 : j * 2 + 1 < l.length := by omega
          obtain ⟨ga, oa, eA, hga, _⟩ := H.out.addr (by omega)
          subst eA
          have HCE : Hid (∀ w', w.grownBy w' none → w'.cell? ⟨ga, oa + j * 2, none⟩ = some (.int .u64 l[j * 2]) ∧ w'.cell? ⟨ga, oa + (j * 2 + 1), none⟩ = some (.int .u64 l[j * 2 + 1])) := Lib.hid (fun w' hw => by
            have hk' := H.out.kept hw
            obtain ⟨g1, o1, c1, e1, _, _, a1, _⟩ := hk'.atU (k := j * 2) hx0
            injection e1 with e1
            injection e1 with e1
            injection e1 with e1 e2
            subst e1 e2
            obtain ⟨g1, o1, c1, e1, _, _, a2, _⟩ := hk'.atU (k := j * 2 + 1) hx1
            injection e1 with e1
            injection e1 with e1
            injection e1 with e1 e2
            subst e1 e2
            exact ⟨a1, a2⟩)
          have HUU : Hid (U64 l[j * 2] ∧ U64 l[j * 2 + 1]) := Lib.hid (by
            obtain ⟨_, _, _, _, _, _, _, a1⟩ := H.out.atU (k := j * 2) hx0
            obtain ⟨_, _, _, _, _, _, _, a2⟩ := H.out.atU (k := j * 2 + 1) hx1
            exact ⟨a1, a2⟩)
          have HSN : Hid ((prsI l q).take (j + 1) = (prsI l q).take j ++ [(l[j * 2], l[j * 2 + 1])]) := Lib.hid (by
            have hjl : j < (prsI l q).length := by rw [prsI_length]; omega
            rw [List.take_succ_eq_append_getElem hjl, prsI_at _ _ _ (by omega), pair_at _ _ hx1])
          have HAd : Hid (Acc encP w.heap.size 60 (fun g => w.heap.size ≤ g) wr.drew u6 ((prsI l q).take j)) := Lib.hid (hacc.kept (grownBy_drewN (World.grownBy.refl wr none) 1))
          have HGd : Hid (w.grownBy wr.drew none) := Lib.hid (grownBy_drewN hg 1)
          obtain ⟨c0, c1⟩ := HCE.out wr hg
          obtain ⟨y0, hy0⟩ : ∃ y, y = l[j * 2] := ⟨_, rfl⟩
          obtain ⟨y1, hy1⟩ : ∃ y, y = l[j * 2 + 1] := ⟨_, rfl⟩
          rw [← hy0, ← hy1] at HCE HUU HSN
          rw [← hy0] at c0
          rw [← hy1] at c1
          obtain ⟨d0, d1⟩ := HCE.out (wr.drew.alloc (Obj.cells #[.int .u64 y0, .int .u64 y1] 60)) (HGd.out.trans (World.grownBy_alloc _ _ none))
          have HLB : Hid ((((prsI l q).take j).length + 1) * 16 ≤ 140737488355328) := Lib.hid (by
            rw [List.length_take]
            omega)
          have i1 : (j : Int) * 2 < (l.length : Int) := by omega
          have i2 : (j : Int) * 2 + 1 < (l.length : Int) := by omega
          have i3 : (0 : Int) ≤ (j : Int) * 2 := by omega
          have i4 : (0 : Int) ≤ (j : Int) * 2 + 1 := by omega
          have i5 : IntKind.i64.wrap ((j : Int) * 2 + 1) = (j : Int) * 2 + 1 := IntWalk.i64_in _ (by omega)
          have i6 : ((j : Int) * 2).toNat = j * 2 := by omega
          have i7 : ((j : Int) * 2 + 1).toNat = j * 2 + 1 := by omega
          clear hacc hg HX hy0 hy1 hx0 hx1 hlle HST
          go_wp2_with fail
          go_region_held3 (fun w' => w'.cell? ⟨ga, oa + j * 2, none⟩ = some (.int .u64 y0) ∧ w'.cell? ⟨ga, oa + (j * 2 + 1), none⟩ = some (.int .u64 y1))
            (first | (exact ⟨by assumption, by assumption⟩) | go_keep)
            ((refine step_pushG rfl (.tmp 23) (.tmp 34) rfl (E := encP) (y := (y0, y1)) el_pair HGd.out HAd.out (fun _ h => h) ⟨rfl, HUU.out⟩ HLB.out rfl rfl ?_; intro v3 w3 hacc3 hg3 hgo3; have HA3 := Lib.hid hacc3; have HG3 := Lib.hid hg3; obtain ⟨f0, f1⟩ := HCE.out w3 hg3; clear hacc3 hg3 hgo3))
          have HFIN : Hid (Acc encP w.heap.size 60 (fun g => w.heap.size ≤ g) w3 v3 ((prsI l q).take (j + 1)) ∧ w.grownBy w3 none) := Lib.hid ⟨by rw [HSN.out]; exact HA3.out, HG3.out⟩
          clear HA3 HG3 i5 i6 i7
          go_wp2_with fail
          go_roundg n
          case measure => omega
          case rel => exact ⟨j + 1, by omega, by congr 1; omega, HFIN⟩
    · have HE : Hid (opE p l.length = 4 ∧ opL p l = []) := Lib.hid (by simp [opL, opE, hs, hl, hq])
      have hd : ((l.length : Int) != 2 * (q : Int)) = true := by simpa using hl
      clear hs hl hq ht
      go_enter Try.func10, Try.ntmps10
      go_wp2_with fail
      refine (HC.out _).mono ?_
      rintro e w1 ⟨rfl, hg⟩
      have HG1 := hidTrans hg HG0
      have HB1 := bkGrown hg HB0
      have hp1 := HB1.out.prule
      clear hg
      go_wp2_with fail
      refine (HS.out _).mono ?_
      rintro e w2 ⟨rfl, hg⟩
      have HG2 := hidTrans hg HG1
      clear hg hp1
      go_wp2
      go_ret2
      rw [HE.out.1, HE.out.2]
      exact ⟨_, rfl, Sl.nil _ _ _, HG2.out⟩
set_option maxHeartbeats 1000000 in
theorem ropenComs_any (p : Par) (v : Value) (l : List Int) (X : Nat → Prop) (w : World) (h : Sl encU X w v l) (hb : l.length ≤ 1500) :
    Calls Try.prog 12 #[p.v, v] w (GivesE (encS encU) (fun g => w.heap.size ≤ g) w (ocL p l) (ocE p l.length)) := by
  have H := Lib.hid h
  obtain ⟨A, c, rfl, hlc, _⟩ := h.form
  have HB0 : Hid (Bk (w.alloc (Obj.cells p.cells 24)) w.heap.size 24 p.cells) := Lib.hid (Bk.new w _ _)
  have HG0 : Hid (w.grownBy (w.alloc (Obj.cells p.cells 24)) none) := Lib.hid (World.grownBy_alloc w _ none)
  clear h
  cases hs : smallB p with
  | false =>
    have HE : Hid (ocE p l.length = 1 ∧ ocL p l = []) := Lib.hid (by simp [ocL, ocE, hs])
    have HC := Lib.hid (fun w => rsmall_no p w hs)
    clear hs
    go_enter Try.func12, Try.ntmps12
    go_wp2_with fail
    refine (HC.out _).mono ?_
    rintro e w1 ⟨rfl, hg⟩
    have HG := hidTrans hg HG0
    clear hg
    go_wp2
    go_ret2
    rw [HE.out.1, HE.out.2]
    exact ⟨_, rfl, Sl.nil _ _ _, HG.out⟩
  | true =>
    have HC := Lib.hid (fun w => rsmall_yes p w hs)
    have HS := Lib.hid (fun w => rsecrets_any p w hs)
    obtain ⟨q, t, hq, ht, q1, t1, t2⟩ := sec_nat hs
    have m1 : (t : Int) * (q : Int) ≤ 3 * 10 := Int.mul_le_mul (by omega) (by omega) (by omega) (by omega)
    have m0 : 0 ≤ (t : Int) * (q : Int) := Int.mul_nonneg (by omega) (by omega)
    have k1 : IntKind.i64.wrap (p.T + 1) = (t : Int) := by rw [ht]; exact IntWalk.i64_in _ (by omega)
    have k2 : IntKind.i64.wrap ((t : Int) * (q : Int)) = (t : Int) * (q : Int) := IntWalk.i64_in _ (by omega)
    rw [hq] at HS
    by_cases hl : (l.length : Int) = (t : Int) * (q : Int)
    · have HE : Hid (ocE p l.length = 0 ∧ ocL p l = chk t l q) := Lib.hid (by simp [ocL, ocE, hs, hl, hq, ht])
      have hd : ((l.length : Int) != (t : Int) * (q : Int)) = false := by simpa using hl
      have hl2 : l.length = q * t := by rw [Nat.mul_comm]; exact_mod_cast hl
      have HLL := Lib.hid hl2
      have HTT := Lib.hid ht
      have hT0 : p.T ≤ 2 := by omega
      have hT1 : 0 ≤ p.T := by omega
      clear hs hl hl2 hq m0 m1 ht
      go_enter Try.func12, Try.ntmps12
      go_wp2_with fail
      refine (HC.out _).mono ?_
      rintro e w1 ⟨rfl, hg⟩
      have HG1 := hidTrans hg HG0
      have HB1 := bkGrown hg HB0
      have hp1 := HB1.out.prule
      have hs1 := HB1.out.lt
      clear hg
      go_wp2_with fail
      have HG4 : Hid (w.grownBy w1.drew none) := Lib.hid (grownBy_drewN HG1.out 1)
      have HB4 : Hid (Bk w1.drew w.heap.size 24 p.cells) := Lib.hid (HB1.out.drewN 1)
      go_region_held3 (fun w' => ∀ o, w'.cell? ⟨w.heap.size, o, none⟩ = (#[.int .u64 p.P, .int .u64 p.Q, .int .u64 p.G, .int .u64 p.H, .int .i64 p.Nodes, .int .i64 p.N, .int .i64 p.T, .int .i64 p.K, .int .i64 p.D, .int .i64 p.R, .int .i64 p.M, .int .i64 p.X] : Array Value)[o]?) (first | assumption | exact rule_alloc (by assumption) (by assumption) _ | go_keep) (first
        | (go_at_call 38; (with_reducible refine (HS.out _).mono ?_); rintro e' w' ⟨rfl, hg⟩; have HGx := hidTrans hg (by assumption); have HBx := bkGrown hg (by assumption); have hpx := HBx.out.prule; have hsx := HBx.out.lt; clear hg))
      have HST : Hid (Acc (encW encU) w.heap.size 25 (fun g => w.heap.size ≤ g) w' (.slice none 0 0) (chk t l 0) ∧ w.grownBy w' none ∧ Bk w' w.heap.size 24 p.cells) := Lib.hid ⟨Acc.nil _ _ _ _ _, HGx.out, HBx.out⟩
      have HI0 : Hid (0 = 0 * t) := Lib.hid (by simp)
      clear hp1 hs1
      clear k1 k2 hd
      go_wp2_with fail
      go_loopg [6, 7] q (fun g s6 s7 wx => ∃ j i : Nat, j + g = q ∧ s7 = .int .i64 (i : Int) ∧ Hid (i = j * t) ∧ Hid (Acc (encW encU) w.heap.size 25 (fun g => w.heap.size ≤ g) wx s6 (chk t l j) ∧ w.grownBy wx none ∧ Bk wx w.heap.size 24 p.cells))
      case atStart => exact ⟨0, 0, by omega, rfl, HI0, HST⟩
      case round =>
        obtain ⟨j, i, hj, rfl, HIJ, HX⟩ := hrel
        have hlle := HLL.out
        have hij := HIJ.out
        have hmul : (j + gk) * t = j * t + gk * t := Nat.add_mul _ _ _
        rw [hj] at hmul
        cases gk with
        | zero =>
          have hnl : ¬ (i : Int) < (l.length : Int) := by omega
          obtain rfl : j = q := by omega
          have HR : Hid (Sl (encS encU) (fun g => w.heap.size ≤ g) wr u6 (chk t l j) ∧ w.grownBy wr none) := Lib.hid ⟨HX.out.1.sl.plain, HX.out.2.1⟩
          clear HX HST hlle hij hmul
          go_wp2
          go_ret2
          rw [HE.out.1, HE.out.2]
          exact ⟨_, rfl, HR.out.1, HR.out.2⟩
        | succ n =>
          obtain ⟨hacc, hg, hbp⟩ := HX.out
          have hml2 : (n + 1) * t = n * t + t := by rw [Nat.add_mul, Nat.one_mul]
          have hit : i + t ≤ l.length := by omega
          obtain ⟨ga, oa, eA, hga, _⟩ := H.out.addr (by omega)
          subst eA
          have HTK : Hid (Sl encU X wr (.slice (some ⟨ga, oa + i, none⟩) (i + t - i) (c - i)) ((l.drop (j * t)).take t)) := Lib.hid (by
            rw [show i + t - i = t by omega]
            have := ((H.out.kept hg).drop i (by omega)).take t (by rw [List.length_drop]; omega)
            rw [show i * encU.size = i from Nat.mul_one i] at this
            rw [← hij]
            exact this)
          have HTL : Hid (((l.drop (j * t)).take t).length = t) := Lib.hid (by rw [List.length_take, List.length_drop, ← hij]; omega)
          have HBY : Hid (((l.drop (j * t)).take t).length * 8 ≤ 140737488355328) := Lib.hid (by rw [HTL.out]; omega)
          have HOW := Lib.hid hacc.lt
          have HYY : Hid (∀ g, wr.heap.size ≤ g → w.heap.size ≤ g ∧ some g ≠ u6.ownBlock) := Lib.hid (fun g h => ⟨Nat.le_trans hg.size h, fun e => by have := (HOW.out g e.symm).2; omega⟩)
          have HAC := Lib.hid hacc
          have HG := Lib.hid hg
          have HBp := Lib.hid hbp
          have hp := hbp.prule
          have hpa := (hbp.alloc (Obj.cells #[] 22)).prule
          have hlp := hbp.lt
          have HSN := Lib.hid (chk_succ t l j)
          have HLB : Hid (((chk t l j).length + 1) * 24 ≤ 140737488355328) := Lib.hid (by rw [chk_length]; omega)
          have HIN : Hid (i + t = (j + 1) * t) := Lib.hid (by rw [Nat.add_mul, Nat.one_mul]; omega)
          have i1 : (i : Int) < (l.length : Int) := by omega
          have i2 : (i : Int) + (t : Int) ≤ (l.length : Int) := by omega
          have i3 : (l.length : Int) ≤ (c : Int) := by omega
          have i4 : (i : Int) + (t : Int) ≤ (c : Int) := by omega
          have i5 : ¬ c = i := by omega
          have hTe : p.T + 1 = (t : Int) := HTT.out
          have hTs : (i : Int) + p.T + 1 = (i : Int) + (t : Int) := by omega
          clear hacc hg hbp HX hij hmul hml2 hlle hit HST
          generalize (l.drop (j * t)).take t = pc at HTK HTL HBY HSN
          go_wp2_with (at_builtin; refine wpList_copyG rfl (.tmp 30) (.tmp 38) rfl (E := encU) (Y := fun g => w.heap.size ≤ g ∧ some g ≠ u6.ownBlock) el_u64 rfl rfl HTK.out HBY.out HYY.out (fun _ _ _ h => h) ?_)
          intro A1 c1 w3 hacc3 hg3
          rw [HTL.out] at hacc3 ⊢
          have HREP : Hid (Enc.rep (encW encU) (fun g => w.heap.size ≤ g ∧ some g ≠ u6.ownBlock) w3 [.slice A1 t c1] pc) := Lib.hid ⟨_, rfl, hacc3.sl, hacc3.wr (by rw [HTL.out]; omega)⟩
          have HAC3 := Lib.hid (HAC.out.kept hg3)
          have HG3 := Lib.hid (HG.out.trans hg3)
          have HBp3 := Lib.hid (HBp.out.grown hg3 (by simp))
          clear hacc3 hg3 hp hpa hlp
          have hp := HBp3.out.prule
          go_wp2_with (at_builtin; refine wpList_pushG rfl (.tmp 29) (.tmp 40) rfl (E := encW encU) el_nums HG3.out HAC3.out (fun _ h => h) HREP.out HLB.out rfl rfl ?_)
          intro v5 w5 hacc5 hg5 hgo
          have HFIN : Hid (Acc (encW encU) w.heap.size 25 (fun g => w.heap.size ≤ g) w5 v5 (chk t l (j + 1)) ∧ w.grownBy w5 none ∧ Bk w5 w.heap.size 24 p.cells) :=
            Lib.hid ⟨by rw [HSN.out]; exact hacc5, hg5, HBp3.out.grown hgo (fun e => HAC3.out.ne_bk HBp3.out (by decide) e.symm)⟩
          clear hacc5 hg5 hgo hp
          have hp := HFIN.out.2.2.prule
          go_wp2_with fail
          go_roundg n
          case measure => omega
          case rel => exact ⟨j + 1, i + t, by omega, by go_num, HIN, HFIN⟩
    · have HE : Hid (ocE p l.length = 4 ∧ ocL p l = []) := Lib.hid (by simp [ocL, ocE, hs, hl, hq, ht])
      have hd : ((l.length : Int) != (t : Int) * (q : Int)) = true := by simpa using hl
      clear hs hl hq m0 m1 ht
      go_enter Try.func12, Try.ntmps12
      go_wp2_with fail
      refine (HC.out _).mono ?_
      rintro e w1 ⟨rfl, hg⟩
      have HG1 := hidTrans hg HG0
      have HB1 := bkGrown hg HB0
      have hp1 := HB1.out.prule
      have hs1 := HB1.out.lt
      clear hg
      go_wp2_with fail
      have HG4 : Hid (w.grownBy w1.drew none) := Lib.hid (grownBy_drewN HG1.out 1)
      have HB4 : Hid (Bk w1.drew w.heap.size 24 p.cells) := Lib.hid (HB1.out.drewN 1)
      go_region_held3 (fun w' => ∀ o, w'.cell? ⟨w.heap.size, o, none⟩ = (#[.int .u64 p.P, .int .u64 p.Q, .int .u64 p.G, .int .u64 p.H, .int .i64 p.Nodes, .int .i64 p.N, .int .i64 p.T, .int .i64 p.K, .int .i64 p.D, .int .i64 p.R, .int .i64 p.M, .int .i64 p.X] : Array Value)[o]?) (first | assumption | exact rule_alloc (by assumption) (by assumption) _ | go_keep) (first
        | (go_at_call 38; (with_reducible refine (HS.out _).mono ?_); rintro e' w' ⟨rfl, hg⟩; have HGx := hidTrans hg (by assumption); have HBx := bkGrown hg (by assumption); have hpx := HBx.out.prule; have hsx := HBx.out.lt; clear hg))
      go_wp2_with fail
      go_ret2
      rw [HE.out.1, HE.out.2]
      exact ⟨_, rfl, Sl.nil _ _ _, HGx.out⟩
end Go.Proofs.Ytoibeeecmkpdpaa
