/- poly.others, an iterator over how far places are from each other, walked (printed by mk_poly.py). pedersen.Coms, walked: a range over a function within a range over a function. poly.share, walked. poly.may and poly.unlike, walked: what is wrong with places (a map of those met). poly.Weights, walked. pedersen.Matrix, walked. pedersen.Formed: slices.ContainsFunc over numbers and over lists of numbers. pedersen.secrets, all, Formed. share.secrets, small, all, weights, walked. share.all, walked (printed by mk_shrb.py). share.weights, Coms' closures, come over numbers, walked. share.come over numbers, members, walked. share.members, and slices.ContainsFunc at share's closures, walked (printed by mk_shre.py). A pair made in memory. share.Sum's closures, walked (printed by mk_shrf.py). share.come over pairs, walked (printed by mk_shrg.py). share.Sum, walked (printed by mk_shrh.py). fixed.Int, walked. Dealt as data. share.Coms, walked (printed by mk_shrk.py). slices.Chunk, an iterator over pieces of a list, walked. A region that draws its order, in which some operations, one behind the other (the late ones: appends, stores), turn what lay there (printed by mk_late.py from XMono). -/
import Derived.Test.YtlhjbllfcbojmaaZ1
import Derived.Maps.OwnOps
import Derived.Maps.OwnSet
import Derived.Maps.Views
import Derived.WalkKit
namespace Go.Proofs.Ytlhjbllfcbojmaa
open Go Go.RowKit Go.Shelf

attribute [local go_sem] Oper.semAt_some
/-- How far the i-th place, and another one, are from the first k, but for the i-th. -/
def othersUp (q : Int) (xs : List Int) (i : Nat) (at_ : Int) (k : Nat) : List (Int × Int) := ((List.range k).filter fun j => j != i).map fun j => (subI (xs[i]?.getD 0) (xs[j]?.getD 0) q, subI at_ (xs[j]?.getD 0) q)
def othersI (q : Int) (xs : List Int) (i : Nat) (at_ : Int) : List (Int × Int) := othersUp q xs i at_ xs.length
theorem othersUp_skip (q : Int) (xs : List Int) (i : Nat) (at_ : Int) : othersUp q xs i at_ (i + 1) = othersUp q xs i at_ i := by simp [othersUp, List.range_succ]
theorem othersUp_snoc (q : Int) (xs : List Int) (i : Nat) (at_ : Int) (k : Nat) (h : k ≠ i) : othersUp q xs i at_ (k + 1) = othersUp q xs i at_ k ++ [(subI (xs[i]?.getD 0) (xs[k]?.getD 0) q, subI at_ (xs[k]?.getD 0) q)] := by simp [othersUp, List.range_succ, h]
theorem othersUp_length (q : Int) (xs : List Int) (i : Nat) (at_ : Int) (k : Nat) : (othersUp q xs i at_ k).length ≤ k := by
  simp only [othersUp, List.length_map]
  exact Nat.le_trans (List.length_filter_le _ _) (by simp)
set_option maxHeartbeats 400000 in
theorem others_any (A : Option Addr) (n c : Nat) (i at_ q : Int) (w : World) :
    Calls Try.prog 67 #[.slice A n c, .int .i64 i, .int .u64 at_, .int .u64 q] w fun e w' => e = .returned (.func (.func 70) #[] #[.pointer (some ⟨w.heap.size, 0, none⟩), .pointer (some ⟨w.heap.size + 1, 0, none⟩), .pointer (some ⟨w.heap.size + 1 + 1 + 1, 0, none⟩), .pointer (some ⟨w.heap.size + 1 + 1, 0, none⟩)]) ∧ w' = (((w.alloc (.cells #[.slice A n c] 28)).alloc (.cells #[.int .i64 i] 3)).alloc (.cells #[.int .u64 at_] 22)).alloc (.cells #[.int .u64 q] 22) := by
  go_enter Try.func67, Try.ntmps67
  go_wp2
  go_ret
  exact ⟨rfl, rfl⟩
/-- What a round keeps: what lay below n₀, and four boxes. -/
def Kp4 (n₀ B1 B2 B3 B4 : Nat) (A B : World) : Prop := Below n₀ A B ∧ B.heap[B1]? = A.heap[B1]? ∧ B.heap[B2]? = A.heap[B2]? ∧ B.heap[B3]? = A.heap[B3]? ∧ B.heap[B4]? = A.heap[B4]?
theorem Kp4.refl (n₀ B1 B2 B3 B4 : Nat) (A : World) : Kp4 n₀ B1 B2 B3 B4 A A := ⟨Below.refl _ _, rfl, rfl, rfl, rfl⟩
theorem Kp4.trans {n₀ B1 B2 B3 B4 : Nat} {A B C : World} (h : Kp4 n₀ B1 B2 B3 B4 A B) (k : Kp4 n₀ B1 B2 B3 B4 B C) : Kp4 n₀ B1 B2 B3 B4 A C := ⟨h.1.trans k.1, k.2.1.trans h.2.1, k.2.2.1.trans h.2.2.1, k.2.2.2.1.trans h.2.2.2.1, k.2.2.2.2.trans h.2.2.2.2⟩
theorem Kp4.grown {n₀ B1 B2 B3 B4 : Nat} {A B : World} (hg : A.grownBy B none) (hn : n₀ ≤ A.heap.size) (h1 : B1 < A.heap.size) (h2 : B2 < A.heap.size) (h3 : B3 < A.heap.size) (h4 : B4 < A.heap.size) : Kp4 n₀ B1 B2 B3 B4 A B :=
  ⟨(below_grown hg).mono hn, hg.block _ h1 (by simp), hg.block _ h2 (by simp), hg.block _ h3 (by simp), hg.block _ h4 (by simp)⟩
theorem Kp4.b {n₀ B1 B2 B3 B4 : Nat} {w : World} (hn : n₀ ≤ w.heap.size) (h1 : B1 < w.heap.size) (h2 : B2 < w.heap.size) (h3 : B3 < w.heap.size) (h4 : B4 < w.heap.size) (W : World) (l : Nat) (o o' : Obj) (hl : w.heap.size ≤ l) (h : W.heap[l]? = some o) (k1 : o.isCells = false) (k2 : o.isWalk = false) : Kp4 n₀ B1 B2 B3 B4 W (W.putObj l o') := by
  have hlt := (Array.getElem?_eq_some_iff.1 h).1
  have hg := grownBy_putObj' W l o'
  exact ⟨belowK_b hn W l o o' hl h k1 k2, hg.block _ (by omega) (fun e => by injection e with e; omega), hg.block _ (by omega) (fun e => by injection e with e; omega), hg.block _ (by omega) (fun e => by injection e with e; omega), hg.block _ (by omega) (fun e => by injection e with e; omega)⟩
set_option maxRecDepth 100000 in
set_option maxHeartbeats 2000000 in
theorem others_goes (nn : Nat) (hn : 1 ≤ nn) (B1 B2 B3 B4 : Nat) (v : Value) (xs : List Int) (i : Nat) (at_ q : Int) (X : Nat → Prop) (w₀ w1 : World) (h01 : Below w₀.heap.size w₀ w1) (hb1 : Boxed w1 B1 28 v) (hb2 : Boxed w1 B2 3 (.int .i64 i)) (hb3 : Boxed w1 B3 22 (.int .u64 q)) (hb4 : Boxed w1 B4 22 (.int .u64 at_)) (hxs : Sl encU X w₀ v xs) (hi : i < xs.length) (hu : U64 at_) :
    SeqGoes Fence.wide nn Try.prog 70 #[.pointer (some ⟨B1, 0, none⟩), .pointer (some ⟨B2, 0, none⟩), .pointer (some ⟨B3, 0, none⟩), .pointer (some ⟨B4, 0, none⟩)] (fun x : Int × Int => #[.int .u64 x.1, .int .u64 x.2]) (fun x _ => U64 x.1 ∧ U64 x.2) (Kp4 w₀.heap.size B1 B2 B3 B4) (fun ys => ys = othersI q xs i at_) xs.length w1 := by
  intro l J W hW hJ hY h0
  refine callsIn_of_wp Try.func70 rfl trivial ?_ rfl
  simp only [Try.ntmps70, List.size_toArray, List.length_cons, List.length_nil, Nat.reduceAdd, Nat.reduceSub, Array.replicate_succ, Array.replicate_zero, List.push_toArray, List.append_toArray, List.nil_append, List.cons_append]
  have HW1 : Hid (Boxed W B1 28 v) := Lib.hid ((hW.5 B1 hb1.lt).trans hb1)
  have HW2 : Hid (Boxed W B2 3 (.int .i64 i)) := Lib.hid ((hW.5 B2 hb2.lt).trans hb2)
  have HW3 : Hid (Boxed W B3 22 (.int .u64 q)) := Lib.hid ((hW.5 B3 hb3.lt).trans hb3)
  have HW4 : Hid (Boxed W B4 22 (.int .u64 at_)) := Lib.hid ((hW.5 B4 hb4.lt).trans hb4)
  have HG0 : Hid (w₀.grownBy W none) := Lib.hid (grown_of_below (h01.trans (hW.mono h01.size)))
  have HXS := Lib.hid hxs
  have HUA := Lib.hid hu
  obtain ⟨g, o, c, _, e, _, _, _, _⟩ := hxs.at (k := i) hi
  subst e
  obtain ⟨n, hnn⟩ : ∃ n, n = xs.length := ⟨_, rfl⟩
  have HN := Lib.hid hnn
  rw [← hnn] at HXS HW1 hY hi
  have ca := HW1.out.cell
  have hn9 : n ≤ 9223372036854775807 := by rw [hnn]; exact hxs.bound
  have HH0 := Lib.hid h0
  have hinI : (i : Int) < (n : Int) := by omega
  have hi0 : (0 : Int) ≤ (i : Int) := by omega
  clear hb1 hb2 hb3 hb4 hxs h0 hnn hu
  gi_wp2
  gi_loopw [10] (fun s10 wr => ∃ (k : Nat) (pre : List (Int × Int)), k ≤ n ∧ s10 = .int .i64 k ∧ Hid (pre = othersUp q xs i at_ k ∧ J pre wr ∧ Kp4 w₀.heap.size B1 B2 B3 B4 W wr)) (fun s10 _ => n - (intOf s10).toNat)
  case atStart => exact ⟨0, [], by omega, rfl, Lib.hid ⟨rfl, HH0.out, Kp4.refl _ _ _ _ _ _⟩⟩
  case round =>
    rename World => wr
    obtain ⟨k, pre, hk, rfl, HX⟩ := hrel
    by_cases hlt : k < n
    · have hki : (k : Int) < (n : Int) := by omega
      have hk0 : (0 : Int) ≤ (k : Int) := by omega
      have hpl : pre.length ≤ k := by rw [HX.out.1]; exact othersUp_length _ _ _ _ _
      have hJk : J pre wr.drew := hJ _ wr wr.drew none HX.out.2.1 (grownBy_drewN (World.grownBy.refl wr none) 1) (by simp)
      have HGr : Hid (w₀.grownBy wr.drew none) := Lib.hid (grownBy_drewN (grown_of_below ((below_grown HG0.out).trans HX.out.2.2.1)) 1)
      have HB1 : Hid (Boxed wr.drew B1 28 (.slice (some ⟨g, o, none⟩) n c)) := Lib.hid (HX.out.2.2.2.1.trans HW1.out)
      have HB2 : Hid (Boxed wr.drew B2 3 (.int .i64 i)) := Lib.hid (HX.out.2.2.2.2.1.trans HW2.out)
      have HB3 : Hid (Boxed wr.drew B3 22 (.int .u64 q)) := Lib.hid (HX.out.2.2.2.2.2.1.trans HW3.out)
      have HB4 : Hid (Boxed wr.drew B4 22 (.int .u64 at_)) := Lib.hid (HX.out.2.2.2.2.2.2.trans HW4.out)
      have HKD : Hid (Kp4 w₀.heap.size B1 B2 B3 B4 W wr.drew) := Lib.hid (HX.out.2.2.trans ⟨⟨rfl, rfl, rfl, Nat.le_refl _, fun _ _ => rfl⟩, rfl, rfl, rfl, rfl⟩)
      have hcell : ∀ j (hj : j < xs.length), ∀ w', wr.drew.grownBy w' none → w'.cell? ⟨g, o + j, none⟩ = some (.int .u64 xs[j]) ∧ U64 xs[j] := fun j hj w' hw => by
        obtain ⟨g', o', c', e, _, _, hcu, hu⟩ := (HXS.out.kept (HGr.out.trans hw)).atU hj
        injection e with e1 e2 e3
        injection e1 with e1
        injection e1 with e4 e5
        subst e4 e5
        exact ⟨hcu, hu⟩
      have hkx : k < xs.length := by rw [← HN.out]; exact hlt
      have hix : i < xs.length := by rw [← HN.out]; exact hi
      have hck : wr.cell? ⟨g, o + k, none⟩ = some (.int .u64 xs[k]) := (hcell k hkx wr.drew (World.grownBy.refl _ _)).1
      have HUK := Lib.hid (hcell k hkx wr.drew (World.grownBy.refl _ _)).2
      have HUI := Lib.hid (hcell i hix wr.drew (World.grownBy.refl _ _)).2
      have HXI : Hid (∀ w', wr.drew.grownBy w' none → w'.cell? ⟨g, o + i, none⟩ = some (.int .u64 xs[i])) := Lib.hid (fun w' hw => (hcell i hix w' hw).1)
      clear hcell ca
      by_cases hki2 : k = i
      · subst hki2
        have HPN : Hid (pre = othersUp q xs k at_ (k + 1)) := Lib.hid (by rw [othersUp_skip]; exact HX.out.1)
        have hd : ((k : Int) != (k : Int)) = false := by simp
        have HJD := Lib.hid (fun w' (hw : wr.drew.grownBy w' none) => hJ pre wr.drew w' none hJk hw (by simp))
        have HKE := Lib.hid (fun w' (hw : wr.drew.grownBy w' none) => HKD.out.trans (Kp4.grown hw HGr.out.size HB1.out.lt HB2.out.lt HB3.out.lt HB4.out.lt))
        generalize xs[k] = xk at *
        clear hJk HX
        gi_wp2
        refine wpIn_wide.2 ?_
        refine wp_region_mono 19 (by kernel_rfl) (by kernel_rfl) ?_
        -- op 0 (slot 15): move
        refine MonoR.step (Pv.eq (.int .i64 (k : Int))) [] (by kernel_rfl) (fun w' hw' => ?_) ?_
        · refine ask_do rfl fun K hK => ?_
          go_simp
          exact hK _ _ rfl rfl (World.grownBy.refl _ none)
        -- op 1 (slot 16): load
        refine MonoR.step (Pv.eq (.int .i64 (k : Int))) [] (by kernel_rfl) (fun w' hw' => ?_) ?_
        · refine ask_do rfl fun K hK => ?_
          have h1c := (HB1.out.kept hw' (by simp)).cell
          have h2c := (HB2.out.kept hw' (by simp)).cell
          have h3c := (HB3.out.kept hw' (by simp)).cell
          have h4c := (HB4.out.kept hw' (by simp)).cell
          go_simp
          exact hK _ _ rfl rfl (World.grownBy.refl _ none)
        -- op 2 (slot 17): binOp
        refine MonoR.step (Pv.eq (.bool false)) [(0, 15), (1, 16)] (by kernel_rfl) (fun w' hw' => ?_) ?_
        · rintro _ rfl
          rintro _ rfl
          refine ask_do rfl fun K hK => ?_
          go_simp
          exact hK _ _ rfl rfl (World.grownBy.refl _ none)
        -- op 3 (slot 18): move
        refine MonoR.step (Pv.eq (.bool false)) [(2, 17)] (by kernel_rfl) (fun w' hw' => ?_) ?_
        · rintro _ rfl
          refine ask_do rfl fun K hK => ?_
          go_simp
          exact hK _ _ rfl rfl (World.grownBy.refl _ none)
        -- op 4 (slot 19): move [(3, 'true')]
        refine MonoR.step (Pv.eq (undef)) [(3, 18)] (by kernel_rfl) (fun w' hw' => ?_) ?_
        · rintro _ rfl
          exact ask_skip rfl rfl rfl
        -- op 5 (slot 20): load [(3, 'true')]
        refine MonoR.step (Pv.eq (undef)) [(3, 18)] (by kernel_rfl) (fun w' hw' => ?_) ?_
        · rintro _ rfl
          exact ask_skip rfl rfl rfl
        -- op 6 (slot 21): load [(3, 'true')]
        refine MonoR.step (Pv.eq (undef)) [(3, 18)] (by kernel_rfl) (fun w' hw' => ?_) ?_
        · rintro _ rfl
          exact ask_skip rfl rfl rfl
        -- op 7 (slot 22): indexAddr [(3, 'true')]
        refine MonoR.step (Pv.eq (undef)) [(3, 18), (5, 20), (6, 21)] (by kernel_rfl) (fun w' hw' => ?_) ?_
        · rintro _ rfl
          rintro _ rfl
          rintro _ rfl
          exact ask_skip rfl rfl rfl
        -- op 8 (slot 23): load [(3, 'true')]
        refine MonoR.step (Pv.eq (undef)) [(3, 18), (7, 22)] (by kernel_rfl) (fun w' hw' => ?_) ?_
        · rintro _ rfl
          rintro _ rfl
          exact ask_skip rfl rfl rfl
        -- op 9 (slot 24): move [(3, 'true')]
        refine MonoR.step (Pv.eq (undef)) [(3, 18)] (by kernel_rfl) (fun w' hw' => ?_) ?_
        · rintro _ rfl
          exact ask_skip rfl rfl rfl
        -- op 10 (slot 25): load [(3, 'true')]
        refine MonoR.step (Pv.eq (undef)) [(3, 18)] (by kernel_rfl) (fun w' hw' => ?_) ?_
        · rintro _ rfl
          exact ask_skip rfl rfl rfl
        -- op 11 (slot 26): call [(3, 'true')]
        refine MonoR.step (Pv.eq (undef)) [(3, 18), (8, 23), (9, 24), (10, 25)] (by kernel_rfl) (fun w' hw' => ?_) ?_
        · rintro _ rfl
          rintro _ rfl
          rintro _ rfl
          rintro _ rfl
          exact ask_skip rfl rfl rfl
        -- op 12 (slot 27): load [(3, 'true')]
        refine MonoR.step (Pv.eq (undef)) [(3, 18)] (by kernel_rfl) (fun w' hw' => ?_) ?_
        · rintro _ rfl
          exact ask_skip rfl rfl rfl
        -- op 13 (slot 28): move [(3, 'true')]
        refine MonoR.step (Pv.eq (undef)) [(3, 18)] (by kernel_rfl) (fun w' hw' => ?_) ?_
        · rintro _ rfl
          exact ask_skip rfl rfl rfl
        -- op 14 (slot 29): load [(3, 'true')]
        refine MonoR.step (Pv.eq (undef)) [(3, 18)] (by kernel_rfl) (fun w' hw' => ?_) ?_
        · rintro _ rfl
          exact ask_skip rfl rfl rfl
        -- op 15 (slot 30): call [(3, 'true')]
        refine MonoR.step (Pv.eq (undef)) [(3, 18), (12, 27), (13, 28), (14, 29)] (by kernel_rfl) (fun w' hw' => ?_) ?_
        · rintro _ rfl
          rintro _ rfl
          rintro _ rfl
          rintro _ rfl
          exact ask_skip rfl rfl rfl
        -- op 16 (slot 31): call [(3, 'true')]
        refine MonoR.step (Pv.eq (undef)) [(3, 18), (4, 19), (11, 26), (15, 30)] (by kernel_rfl) (fun w' hw' => ?_) ?_
        · rintro _ rfl
          rintro _ rfl
          rintro _ rfl
          rintro _ rfl
          exact ask_skip rfl rfl rfl
        -- op 17 (slot 32): unOp [(3, 'true')]
        refine MonoR.step (Pv.eq (undef)) [(3, 18), (16, 31)] (by kernel_rfl) (fun w' hw' => ?_) ?_
        · rintro _ rfl
          rintro _ rfl
          exact ask_skip rfl rfl rfl
        -- op 18 (slot 33): pick
        refine MonoR.step (Pv.eq (.bool false)) [(3, 18), (17, 32)] (by kernel_rfl) (fun w' hw' => ?_) ?_
        · rintro _ rfl
          rintro _ rfl
          refine ask_do rfl fun K hK => ?_
          go_simp
          exact hK _ _ rfl rfl (World.grownBy.refl _ none)
        intro w3 hw3
        iterate 18 (intro _ _)
        rintro _ rfl
        have HJ3 := Lib.hid (HJD.out w3 hw3)
        have HK3 := Lib.hid (HKE.out w3 hw3)
        clear hw3
        refine wpList_nil ?_
        simp only [Act.put, List.setIfInBounds_toArray, List.set_cons_zero, List.set_cons_succ]
        go_wp2_with fail
        gi_wp2
        exact ⟨⟨k + 1, pre, by omega, by go_num, Lib.hid ⟨HPN.out, HJ3.out, HK3.out⟩⟩, by simp [intOf]; omega⟩
      · have HPN : Hid (pre ++ [(subI xs[i] xs[k] q, subI at_ xs[k] q)] = othersUp q xs i at_ (k + 1)) := Lib.hid (by rw [othersUp_snoc _ _ _ _ _ hki2, HX.out.1, List.getElem?_eq_getElem hkx, List.getElem?_eq_getElem hix]; rfl)
        have hd : ((k : Int) != (i : Int)) = true := by simp; omega
        have HRY := Lib.hid (fun w' (hw : wr.drew.grownBy w' none) => hY pre (subI xs[i] xs[k] q, subI at_ xs[k] q) w' (hJ pre wr.drew w' none hJk hw (by simp)) ⟨subI_U64 _ _ _, subI_U64 _ _ _⟩ (by omega))
        have HKE := Lib.hid (fun w' (hw : wr.drew.grownBy w' none) => HKD.out.trans (Kp4.grown hw HGr.out.size HB1.out.lt HB2.out.lt HB3.out.lt HB4.out.lt))
        obtain ⟨xk, hxk⟩ : ∃ y, y = xs[k] := ⟨_, rfl⟩
        obtain ⟨xi, hxi⟩ : ∃ y, y = xs[i] := ⟨_, rfl⟩
        rw [← hxk] at hck HUK HPN HRY
        rw [← hxi] at HUI HXI HPN HRY
        clear hJk HX hxk hxi
        gi_wp2
        refine wpIn_region_mono 16 (by kernel_rfl) (by kernel_rfl) (by kernel_rfl) ?_
        -- op 0 (slot 15): move
        refine MonoR.step (Pv.eq (.int .i64 (k : Int))) [] (by kernel_rfl) (fun w' hw' => ?_) ?_
        · refine ask_do rfl fun K hK => ?_
          go_simp
          exact hK _ _ rfl rfl (World.grownBy.refl _ none)
        -- op 1 (slot 16): load
        refine MonoR.step (Pv.eq (.int .i64 (i : Int))) [] (by kernel_rfl) (fun w' hw' => ?_) ?_
        · refine ask_do rfl fun K hK => ?_
          have h1c := (HB1.out.kept hw' (by simp)).cell
          have h2c := (HB2.out.kept hw' (by simp)).cell
          have h3c := (HB3.out.kept hw' (by simp)).cell
          have h4c := (HB4.out.kept hw' (by simp)).cell
          have hxi := HXI.out w' hw'
          go_simp
          exact hK _ _ rfl rfl (World.grownBy.refl _ none)
        -- op 2 (slot 17): binOp
        refine MonoR.step (Pv.eq (.bool true)) [(0, 15), (1, 16)] (by kernel_rfl) (fun w' hw' => ?_) ?_
        · rintro _ rfl
          rintro _ rfl
          refine ask_do rfl fun K hK => ?_
          go_simp
          exact hK _ _ rfl rfl (World.grownBy.refl _ none)
        -- op 3 (slot 18): move
        refine MonoR.step (Pv.eq (.bool true)) [(2, 17)] (by kernel_rfl) (fun w' hw' => ?_) ?_
        · rintro _ rfl
          refine ask_do rfl fun K hK => ?_
          go_simp
          exact hK _ _ rfl rfl (World.grownBy.refl _ none)
        -- op 4 (slot 19): move [(3, 'true')]
        refine MonoR.step (Pv.eq (.func (.yield l) #[] #[])) [(3, 18)] (by kernel_rfl) (fun w' hw' => ?_) ?_
        · rintro _ rfl
          refine ask_do rfl fun K hK => ?_
          go_simp
          exact hK _ _ rfl rfl (World.grownBy.refl _ none)
        -- op 5 (slot 20): load [(3, 'true')]
        refine MonoR.step (Pv.eq (.slice (some ⟨g, o, none⟩) n c)) [(3, 18)] (by kernel_rfl) (fun w' hw' => ?_) ?_
        · rintro _ rfl
          refine ask_do rfl fun K hK => ?_
          have h1c := (HB1.out.kept hw' (by simp)).cell
          have h2c := (HB2.out.kept hw' (by simp)).cell
          have h3c := (HB3.out.kept hw' (by simp)).cell
          have h4c := (HB4.out.kept hw' (by simp)).cell
          have hxi := HXI.out w' hw'
          go_simp
          exact hK _ _ rfl rfl (World.grownBy.refl _ none)
        -- op 6 (slot 21): load [(3, 'true')]
        refine MonoR.step (Pv.eq (.int .i64 (i : Int))) [(3, 18)] (by kernel_rfl) (fun w' hw' => ?_) ?_
        · rintro _ rfl
          refine ask_do rfl fun K hK => ?_
          have h1c := (HB1.out.kept hw' (by simp)).cell
          have h2c := (HB2.out.kept hw' (by simp)).cell
          have h3c := (HB3.out.kept hw' (by simp)).cell
          have h4c := (HB4.out.kept hw' (by simp)).cell
          have hxi := HXI.out w' hw'
          go_simp
          exact hK _ _ rfl rfl (World.grownBy.refl _ none)
        -- op 7 (slot 22): indexAddr [(3, 'true')]
        refine MonoR.step (Pv.eq (.pointer (some ⟨g, o + i, none⟩))) [(3, 18), (5, 20), (6, 21)] (by kernel_rfl) (fun w' hw' => ?_) ?_
        · rintro _ rfl
          rintro _ rfl
          rintro _ rfl
          refine ask_do rfl fun K hK => ?_
          go_simp
          exact hK _ _ rfl rfl (World.grownBy.refl _ none)
        -- op 8 (slot 23): load [(3, 'true')]
        refine MonoR.step (Pv.eq (.int .u64 xi)) [(3, 18), (7, 22)] (by kernel_rfl) (fun w' hw' => ?_) ?_
        · rintro _ rfl
          rintro _ rfl
          refine ask_do rfl fun K hK => ?_
          have h1c := (HB1.out.kept hw' (by simp)).cell
          have h2c := (HB2.out.kept hw' (by simp)).cell
          have h3c := (HB3.out.kept hw' (by simp)).cell
          have h4c := (HB4.out.kept hw' (by simp)).cell
          have hxi := HXI.out w' hw'
          go_simp
          exact hK _ _ rfl rfl (World.grownBy.refl _ none)
        -- op 9 (slot 24): move [(3, 'true')]
        refine MonoR.step (Pv.eq (.int .u64 xk)) [(3, 18)] (by kernel_rfl) (fun w' hw' => ?_) ?_
        · rintro _ rfl
          refine ask_do rfl fun K hK => ?_
          go_simp
          exact hK _ _ rfl rfl (World.grownBy.refl _ none)
        -- op 10 (slot 25): load [(3, 'true')]
        refine MonoR.step (Pv.eq (.int .u64 q)) [(3, 18)] (by kernel_rfl) (fun w' hw' => ?_) ?_
        · rintro _ rfl
          refine ask_do rfl fun K hK => ?_
          have h1c := (HB1.out.kept hw' (by simp)).cell
          have h2c := (HB2.out.kept hw' (by simp)).cell
          have h3c := (HB3.out.kept hw' (by simp)).cell
          have h4c := (HB4.out.kept hw' (by simp)).cell
          have hxi := HXI.out w' hw'
          go_simp
          exact hK _ _ rfl rfl (World.grownBy.refl _ none)
        -- op 11 (slot 26): call [(3, 'true')]
        refine MonoR.step (Pv.eq (.int .u64 (subI xi xk q))) [(3, 18), (8, 23), (9, 24), (10, 25)] (by kernel_rfl) (fun w' hw' => ?_) ?_
        · rintro _ rfl
          rintro _ rfl
          rintro _ rfl
          rintro _ rfl
          refine ask_do rfl fun K hK => ?_
          go_simp
          refine (sub_gr xi xk q w' HUI.out HUK.out).mono ?_
          rintro e w3 ⟨rfl, hg⟩
          exact hK _ _ rfl rfl hg
        -- op 12 (slot 27): load [(3, 'true')]
        refine MonoR.step (Pv.eq (.int .u64 at_)) [(3, 18)] (by kernel_rfl) (fun w' hw' => ?_) ?_
        · rintro _ rfl
          refine ask_do rfl fun K hK => ?_
          have h1c := (HB1.out.kept hw' (by simp)).cell
          have h2c := (HB2.out.kept hw' (by simp)).cell
          have h3c := (HB3.out.kept hw' (by simp)).cell
          have h4c := (HB4.out.kept hw' (by simp)).cell
          have hxi := HXI.out w' hw'
          go_simp
          exact hK _ _ rfl rfl (World.grownBy.refl _ none)
        -- op 13 (slot 28): move [(3, 'true')]
        refine MonoR.step (Pv.eq (.int .u64 xk)) [(3, 18)] (by kernel_rfl) (fun w' hw' => ?_) ?_
        · rintro _ rfl
          refine ask_do rfl fun K hK => ?_
          go_simp
          exact hK _ _ rfl rfl (World.grownBy.refl _ none)
        -- op 14 (slot 29): load [(3, 'true')]
        refine MonoR.step (Pv.eq (.int .u64 q)) [(3, 18)] (by kernel_rfl) (fun w' hw' => ?_) ?_
        · rintro _ rfl
          refine ask_do rfl fun K hK => ?_
          have h1c := (HB1.out.kept hw' (by simp)).cell
          have h2c := (HB2.out.kept hw' (by simp)).cell
          have h3c := (HB3.out.kept hw' (by simp)).cell
          have h4c := (HB4.out.kept hw' (by simp)).cell
          have hxi := HXI.out w' hw'
          go_simp
          exact hK _ _ rfl rfl (World.grownBy.refl _ none)
        -- op 15 (slot 30): call [(3, 'true')]
        refine MonoR.step (Pv.eq (.int .u64 (subI at_ xk q))) [(3, 18), (12, 27), (13, 28), (14, 29)] (by kernel_rfl) (fun w' hw' => ?_) ?_
        · rintro _ rfl
          rintro _ rfl
          rintro _ rfl
          rintro _ rfl
          refine ask_do rfl fun K hK => ?_
          go_simp
          refine (sub_gr at_ xk q w' HUA.out HUK.out).mono ?_
          rintro e w3 ⟨rfl, hg⟩
          exact hK _ _ rfl rfl hg
        intro w3 hw3
        intro y0 e0 y1 e1 y2 e2 y3 e3 y4 e4 y5 e5 y6 e6 y7 e7 y8 e8 y9 e9 y10 e10 y11 e11 y12 e12 y13 e13 y14 e14 y15 e15
        show wpListIn Fence.wide nn Try.prog _ _ _ _ w3
        have e0 : y0 = .int .i64 (k : Int) := e0
        subst e0
        have e1 : y1 = .int .i64 (i : Int) := e1
        subst e1
        have e2 : y2 = .bool true := e2
        subst e2
        have e3 : y3 = .bool true := e3
        subst e3
        have e4 : y4 = .func (.yield l) #[] #[] := e4
        subst e4
        have e5 : y5 = .slice (some ⟨g, o, none⟩) n c := e5
        subst e5
        have e6 : y6 = .int .i64 (i : Int) := e6
        subst e6
        have e7 : y7 = .pointer (some ⟨g, o + i, none⟩) := e7
        subst e7
        have e8 : y8 = .int .u64 xi := e8
        subst e8
        have e9 : y9 = .int .u64 xk := e9
        subst e9
        have e10 : y10 = .int .u64 q := e10
        subst e10
        have e11 : y11 = .int .u64 (subI xi xk q) := e11
        subst e11
        have e12 : y12 = .int .u64 at_ := e12
        subst e12
        have e13 : y13 = .int .u64 xk := e13
        subst e13
        have e14 : y14 = .int .u64 q := e14
        subst e14
        have e15 : y15 = .int .u64 (subI at_ xk q) := e15
        subst e15
        simp only [Act.put, List.setIfInBounds_toArray, List.set_cons_zero, List.set_cons_succ]
        have hyy := HRY.out w3 hw3
        clear HRY
        unfold YieldAt at hyy
        try dsimp only at hyy
        refine Exists.elim hyy fun fn hyy1 => Exists.elim hyy1 fun tmps hyy2 => Exists.elim hyy2 fun assign hyy3 => Exists.elim hyy3 fun body hyy4 => ?_
        clear hyy hyy1 hyy2 hyy3
        have hy := hyy4.1
        have hR := hyy4.2
        clear hyy4
        have HR := Lib.hid hR
        have HK3 := Lib.hid (HKE.out w3 hw3)
        clear hw3 hR
        gi_wp2_with ((with_reducible refine HR.out.mono ?_); rintro e W' ⟨rfl, hJ2, hK2⟩)
        exact ⟨⟨k + 1, _, by omega, by go_num, Lib.hid ⟨HPN.out, hJ2, HK3.out.trans hK2⟩⟩, by simp [intOf]; omega⟩
    · obtain rfl : k = n := by omega
      gi_wp2
      go_end0
      exact ⟨⟨_, rfl⟩, pre, by rw [HX.out.1, HN.out]; rfl, HX.out.2.1⟩
end Go.Proofs.Ytlhjbllfcbojmaa

namespace Go.Proofs.Ytlhjbllfcbojmaa
open Go Go.RowKit Go.Shelf

attribute [local go_sem] Oper.semAt_some
theorem wpIn_round_any {P : Program} {ops : Array Oper} {R : Act → World → Prop} {Q : Exit → Act → World → Prop} {l0 n id : Nat} {a : Act} {w : World} (hm : P.follows .mixedOrders = true) (hdf : noDefer ops = true) (hR : ∀ a w, R a w → Q .normal a w)
    (h : wpAny P .any ops (Only R) ops.size (Array.replicate ops.size false) a w.drew) : (Code.region id ops true).wpIn (Fence.wide.inRound l0) n P Q a w :=
  wpIn_region_any hm (wpAnyIn_of_any (noDefer_spec hdf) hR _ _ _ _ h)
end Go.Proofs.Ytlhjbllfcbojmaa

namespace Go.Proofs.Ytlhjbllfcbojmaa
open Go Go.RowKit Go.Shelf

attribute [local go_sem] Oper.semAt_some
/-- The product of numbers modulo q. -/
def prodI (q : Int) (l : List Int) : Int := l.foldl (fun s y => mulI s y q) (1 % q)
theorem prodI_snoc (q : Int) (l : List Int) (y : Int) : prodI q (l ++ [y]) = mulI (prodI q l) y q := by simp [prodI]
open Classical in
/-- What share tells. -/
noncomputable def shareV (q : Int) (xs : List Int) (i : Nat) (at_ : Int) : Value :=
  if HasInv (prodI q ((othersI q xs i at_).map (·.1))) q then .tuple #[.int .u64 (invI (prodI q ((othersI q xs i at_).map (·.1))) q), .int .u64 (prodI q ((othersI q xs i at_).map (·.2))), .int .i64 0]
  else .tuple #[.int .u64 0, .int .u64 (prodI q ((othersI q xs i at_).map (·.2))), .int .i64 5]
/-- Two new boxes. -/
def TwoB (w wx : World) (q : Int) (B1 B2 : Nat) : Prop := w.heap.size < B1 ∧ w.heap.size < B2 ∧ B1 ≠ B2 ∧ Boxed wx w.heap.size 22 (.int .u64 q) ∧ Boxed wx B1 22 (.int .u64 (1 % q)) ∧ Boxed wx B2 22 (.int .u64 (1 % q)) ∧ w.grownBy wx none
theorem prodI_fold (q : Int) (hq : mayB q = true) : ∀ (l : List Int) (s : Int), 0 ≤ s ∧ s < q → 0 ≤ l.foldl (fun s y => mulI s y q) s ∧ l.foldl (fun s y => mulI s y q) s < q
  | [], _, h => h
  | y :: l, s, _ => prodI_fold q hq l _ (mulI_bd s y q hq)
theorem prodI_bd (q : Int) (hq : mayB q = true) (l : List Int) : 0 ≤ prodI q l ∧ prodI q l < q := by
  refine prodI_fold q hq l _ ?_
  simp [mayB] at hq
  exact emod_bd 1 q hq.1
theorem prodI_U64 (q : Int) (hq : mayB q = true) (l : List Int) : U64 (prodI q l) := by
  have h := prodI_bd q hq l
  simp [mayB] at hq
  exact ⟨h.1, by omega⟩
/-- The four boxes of others. -/
theorem four_boxes (w : World) (t1 t2 t3 t4 : TypeId) (v1 v2 v3 v4 : Value) (W0 : World) (h : W0 = (((w.alloc (.cells #[v1] t1)).alloc (.cells #[v2] t2)).alloc (.cells #[v3] t3)).alloc (.cells #[v4] t4)) :
    Boxed W0 w.heap.size t1 v1 ∧ Boxed W0 (w.heap.size + 1) t2 v2 ∧ Boxed W0 (w.heap.size + 1 + 1) t3 v3 ∧ Boxed W0 (w.heap.size + 1 + 1 + 1) t4 v4 ∧ w.grownBy W0 none ∧ W0.heap.size = w.heap.size + 1 + 1 + 1 + 1 := by
  subst h
  have b2 := ((Boxed.new (w.alloc (.cells #[v1] t1)) t2 v2).alloc (.cells #[v3] t3)).alloc (.cells #[v4] t4)
  have b3 := (Boxed.new ((w.alloc (.cells #[v1] t1)).alloc (.cells #[v2] t2)) t3 v3).alloc (.cells #[v4] t4)
  have b4 := Boxed.new (((w.alloc (.cells #[v1] t1)).alloc (.cells #[v2] t2)).alloc (.cells #[v3] t3)) t4 v4
  simp only [World.size_alloc] at b2 b3 b4
  exact ⟨(((Boxed.new w t1 v1).alloc _).alloc _).alloc _, b2, b3, b4, (((World.grownBy_alloc w _ none).trans (World.grownBy_alloc _ _ none)).trans (World.grownBy_alloc _ _ none)).trans (World.grownBy_alloc _ _ none), by simp⟩
/-- The round of share: what it was begun with. -/
structure ShE where
  w : World
  W0 : World
  W : World
  q : Int
  p1 : Int
  p2 : Int
  p1' : Int
  p2' : Int
  B1 : Nat
  B2 : Nat
  C1 : Nat
  C2 : Nat
  C3 : Nat
  C4 : Nat
structure ShE.Ok (e : ShE) : Prop where
  b1 : e.w.heap.size < e.B1
  b2 : e.w.heap.size < e.B2
  b12 : e.B1 ≠ e.B2
  c1 : e.B1 < e.C1 ∧ e.B2 < e.C1 ∧ e.C1 < e.W0.heap.size
  c2 : e.B1 < e.C2 ∧ e.B2 < e.C2 ∧ e.C2 < e.W0.heap.size
  c3 : e.B1 < e.C3 ∧ e.B2 < e.C3 ∧ e.C3 < e.W0.heap.size
  c4 : e.B1 < e.C4 ∧ e.B2 < e.C4 ∧ e.C4 < e.W0.heap.size
/-- Where the world stands, by what was written. -/
structure ShE.At (e : ShE) (x y : Bool) (V : World) : Prop where
  q : Boxed V e.w.heap.size 22 (.int .u64 e.q)
  one : Boxed V e.B1 22 (.int .u64 (if x then e.p1' else e.p1))
  two : Boxed V e.B2 22 (.int .u64 (if y then e.p2' else e.p2))
  from' : KeepsFrom e.W0.heap.size e.W V
  kp : Kp4 e.w.heap.size e.C1 e.C2 e.C3 e.C4 e.W V
  bl : Below e.w.heap.size e.w V
  sz : e.W0.heap.size ≤ V.heap.size
theorem ShE.At.grown {e : ShE} (k : e.Ok) {x y : Bool} {V V' : World} (h : e.At x y V) (hg : V.grownBy V' none) : e.At x y V' := by
  have h1 := k.c1
  have h2 := k.c2
  have h3 := k.c3
  have h4 := k.c4
  have h5 := h.sz
  have h6 := k.b1
  exact ⟨h.q.kept hg (by simp), h.one.kept hg (by simp), h.two.kept hg (by simp), h.from'.trans ((keeps_none hg).from _), h.kp.trans (Kp4.grown hg (by omega) (by omega) (by omega) (by omega) (by omega)), h.bl.trans ((below_grown hg).mono (by omega)), Nat.le_trans h.sz hg.size⟩
theorem ShE.At.set1 {e : ShE} (k : e.Ok) {x y : Bool} {V : World} (h : e.At x y V) : e.At true y (V.setCell ⟨e.B1, 0, none⟩ (.int .u64 e.p1')) := by
  have h1 := k.c1
  have h2 := k.c2
  have h3 := k.c3
  have h4 := k.c4
  have h6 := k.b1
  have h7 := k.b12
  exact ⟨h.q.other (by omega) _, h.one.set _, h.two.other (by omega) _, h.from'.trans ((KeepsOthers.setCell _ _ _).from _), h.kp.trans ⟨(Below.refl _ V).setCell (p := ⟨e.B1, 0, none⟩) (by simp; omega) _, Below.heap_setCell V _ _ _ (by simp; omega), Below.heap_setCell V _ _ _ (by simp; omega), Below.heap_setCell V _ _ _ (by simp; omega), Below.heap_setCell V _ _ _ (by simp; omega)⟩, h.bl.setCell (p := ⟨e.B1, 0, none⟩) (by simp; omega) _, by have := h.sz; simp; omega⟩
theorem ShE.At.set2 {e : ShE} (k : e.Ok) {x y : Bool} {V : World} (h : e.At x y V) : e.At x true (V.setCell ⟨e.B2, 0, none⟩ (.int .u64 e.p2')) := by
  have h1 := k.c1
  have h2 := k.c2
  have h3 := k.c3
  have h4 := k.c4
  have h6 := k.b2
  have h7 := k.b12
  exact ⟨h.q.other (by omega) _, h.one.other (by omega) _, h.two.set _, h.from'.trans ((KeepsOthers.setCell _ _ _).from _), h.kp.trans ⟨(Below.refl _ V).setCell (p := ⟨e.B2, 0, none⟩) (by simp; omega) _, Below.heap_setCell V _ _ _ (by simp; omega), Below.heap_setCell V _ _ _ (by simp; omega), Below.heap_setCell V _ _ _ (by simp; omega), Below.heap_setCell V _ _ _ (by simp; omega)⟩, h.bl.setCell (p := ⟨e.B2, 0, none⟩) (by simp; omega) _, by have := h.sz; simp; omega⟩
/-- .. told by what was listed. -/
def ShE.C (e : ShE) (D : Array Bool) (V : World) : Prop := e.At (D.getD 8 false) (D.getD 9 false) V
theorem ShE.C.grown {e : ShE} (k : e.Ok) {D : Array Bool} {V V' : World} (h : e.C D V) (hg : V.grownBy V' none) (i : Nat) (h8 : i ≠ 8) (h9 : i ≠ 9) : e.C (D.setIfInBounds i true) V' := by
  unfold ShE.C
  rw [getD_set_ne false h8, getD_set_ne false h9]
  exact ShE.At.grown k h hg
theorem ShE.C.set1 {e : ShE} (k : e.Ok) {D : Array Bool} {V : World} (h : e.C D V) (hs : D.size = 10) : e.C (D.setIfInBounds 8 true) (V.setCell ⟨e.B1, 0, none⟩ (.int .u64 e.p1')) := by
  unfold ShE.C
  rw [getD_set_ne false (show 8 ≠ 9 by omega), show (D.setIfInBounds 8 true).getD 8 false = true by simp [hs]]
  exact ShE.At.set1 k h
theorem ShE.C.set2 {e : ShE} (k : e.Ok) {D : Array Bool} {V : World} (h : e.C D V) (hs : D.size = 10) : e.C (D.setIfInBounds 9 true) (V.setCell ⟨e.B2, 0, none⟩ (.int .u64 e.p2')) := by
  unfold ShE.C
  rw [getD_set_ne false (show 9 ≠ 8 by omega), show (D.setIfInBounds 9 true).getD 9 false = true by simp [hs]]
  exact ShE.At.set2 k h
theorem ShE.C.one {e : ShE} {D : Array Bool} {V : World} (h : e.C D V) (h8 : D.getD 8 false = false) : Boxed V e.B1 22 (.int .u64 e.p1) := by
  have := ShE.At.one h
  rw [h8] at this
  exact this
theorem ShE.C.two {e : ShE} {D : Array Bool} {V : World} (h : e.C D V) (h9 : D.getD 9 false = false) : Boxed V e.B2 22 (.int .u64 e.p2) := by
  have := ShE.At.two h
  rw [h9] at this
  exact this
theorem shareV_of (q : Int) (xs : List Int) (i : Nat) (at_ : Int) : ∃ x e : Int, invRes (prodI q ((othersI q xs i at_).map (·.1))) q = .tuple #[.int .u64 x, .int .i64 e] ∧ shareV q xs i at_ = .tuple #[.int .u64 x, .int .u64 (prodI q ((othersI q xs i at_).map (·.2))), .int .i64 e] := by
  unfold shareV invRes
  split
  · exact ⟨_, _, rfl, rfl⟩
  · exact ⟨_, _, rfl, rfl⟩
theorem others_bx (A : Option Addr) (n c : Nat) (i at_ q : Int) (w : World) :
    Calls Try.prog 67 #[.slice A n c, .int .i64 i, .int .u64 at_, .int .u64 q] w fun e w' => e = .returned (.func (.func 70) #[] #[.pointer (some ⟨w.heap.size, 0, none⟩), .pointer (some ⟨w.heap.size + 1, 0, none⟩), .pointer (some ⟨w.heap.size + 1 + 1 + 1, 0, none⟩), .pointer (some ⟨w.heap.size + 1 + 1, 0, none⟩)]) ∧ (Boxed w' w.heap.size 28 (.slice A n c) ∧ Boxed w' (w.heap.size + 1) 3 (.int .i64 i) ∧ Boxed w' (w.heap.size + 1 + 1) 22 (.int .u64 at_) ∧ Boxed w' (w.heap.size + 1 + 1 + 1) 22 (.int .u64 q) ∧ w.grownBy w' none ∧ w'.heap.size = w.heap.size + 1 + 1 + 1 + 1) :=
  (others_any A n c i at_ q w).mono fun _ _ h => ⟨h.1, four_boxes _ _ _ _ _ _ _ _ _ _ h.2⟩
theorem twoB_one (w : World) (q : Int) : TwoB w (((w.alloc (.cells #[.int .u64 q] 22)).alloc (.cells #[.int .u64 (1 % q)] 22)).alloc (.cells #[.int .u64 (1 % q)] 22)).drew q (w.heap.size + 1) (w.heap.size + 1 + 1) := by
  have b1 := (Boxed.new (w.alloc (.cells #[.int .u64 q] 22)) 22 (.int .u64 (1 % q))).alloc (.cells #[.int .u64 (1 % q)] 22)
  have b2 := Boxed.new ((w.alloc (.cells #[.int .u64 q] 22)).alloc (.cells #[.int .u64 (1 % q)] 22)) 22 (.int .u64 (1 % q))
  simp only [World.size_alloc] at b1 b2
  exact ⟨by omega, by omega, by omega, (((Boxed.new w 22 (.int .u64 q)).alloc _).alloc _), b1, b2, grownBy_drewN (((World.grownBy_alloc w _ none).trans (World.grownBy_alloc _ _ none)).trans (World.grownBy_alloc _ _ none)) 1⟩
theorem twoB_two (w : World) (q : Int) : TwoB w (((w.alloc (.cells #[.int .u64 q] 22)).alloc (.cells #[.int .u64 (1 % q)] 22)).alloc (.cells #[.int .u64 (1 % q)] 22)).drew q (w.heap.size + 1 + 1) (w.heap.size + 1) := by
  obtain ⟨h1, h2, h3, h4, h5, h6, h7⟩ := twoB_one w q
  exact ⟨h2, h1, h3.symm, h4, h6, h5, h7⟩
set_option maxRecDepth 100000 in
set_option maxHeartbeats 2000000 in
theorem polyShare_any (v : Value) (xs : List Int) (i : Nat) (at_ q : Int) (X : Nat → Prop) (w : World) (hxs : Sl encU X w v xs) (hi : i < xs.length) (hu : U64 at_) (hq : mayB q = true) :
    Calls Try.prog 64 #[v, .int .i64 i, .int .u64 at_, .int .u64 q] w fun e w' => e = .returned (shareV q xs i at_) ∧ w.grownBy w' none := by
  have HQ := Lib.hid hq
  simp [mayB] at hq
  obtain ⟨hq0, hq1⟩ := hq
  have hqn : ¬ q = 0 := by omega
  have HX := Lib.hid hxs
  have HI := Lib.hid hi
  have HU := Lib.hid hu
  have HR := Lib.hid (emod_bd 1 q hq0)
  have HT : Hid (Int.tmod 1 q = 1 % q) := Lib.hid (Int.tmod_eq_emod_of_nonneg (by decide))
  obtain ⟨A1, c1, rfl, _, _⟩ := hxs.form
  obtain ⟨rx, re, hre, hrs⟩ := shareV_of q xs i at_
  rw [hrs]
  have HRE := Lib.hid hre
  clear hxs hi hu hre hrs
  refine (callsIn_wide (n := 4)).1 ?_
  refine callsIn_of_wp_marks Try.func64 rfl trivial ?_ rfl
  refine wpIn_wide.2 ?_
  simp only [Try.ntmps64, List.size_toArray, List.length_cons, List.length_nil, Nat.reduceAdd, Nat.reduceSub, Array.replicate_succ, Array.replicate_zero, List.push_toArray, List.append_toArray, List.nil_append, List.cons_append]
  go_upto_region 1 with fail
  go_cut [11, 12] from 17 to 20 (fun s11 s12 wx => ∃ B1 B2 : Nat, s11 = .pointer (some ⟨B1, 0, none⟩) ∧ s12 = .pointer (some ⟨B2, 0, none⟩) ∧ Hid (TwoB w wx q B1 B2))
  case first =>
    go_region_held3 (fun w' => w'.cell? ⟨w.heap.size, 0, none⟩ = some (.int .u64 q)) (go_keep) (fail)
    all_goals (go_wp2_with fail)
    all_goals (rw [HT.out]; go_meet)
    · exact ⟨_, _, rfl, rfl, Lib.hid (twoB_one w q)⟩
    · exact ⟨_, _, rfl, rfl, Lib.hid (twoB_two w q)⟩
  case rest =>
    obtain ⟨B1, B2, rfl, rfl, HB⟩ := hcut
    rename World => wc
    obtain ⟨kb1, kb2, kb12, kq, kp1, kp2, kg⟩ := HB.out
    have kqc := kq.cell
    have HC : Hid (TwoB w wc q B1 B2) := HB
    have HW : Hid (w.grownBy wc none) := Lib.hid kg
    clear HB kq kp1 kp2 kg
    have hlen : xs.length ≤ c1 := by assumption
    go_wp2_with ((with_reducible refine (others_bx A1 xs.length c1 i at_ q wc).mono ?_); rintro e W0 ⟨rfl, hW0⟩)
    have HD := Lib.hid hW0
    clear hW0
    have HB1 : Hid (Boxed W0 B1 22 (.int .u64 (1 % q)) ∧ Boxed W0 B2 22 (.int .u64 (1 % q)) ∧ Boxed W0 w.heap.size 22 (.int .u64 q) ∧ Below w.heap.size w W0 ∧ B1 < wc.heap.size ∧ B2 < wc.heap.size ∧ w.heap.size ≤ wc.heap.size) := by
      obtain ⟨_, _, _, z4, z1, z2, z3⟩ := HC.out
      have hg := HD.out.2.2.2.2.1
      exact Lib.hid ⟨z1.kept hg (by simp), z2.kept hg (by simp), z4.kept hg (by simp), below_grown (HW.out.trans hg), z1.lt, z2.lt, HW.out.size⟩
    have hs0 : W0.heap.size = wc.heap.size + 1 + 1 + 1 + 1 := HD.out.2.2.2.2.2
    have hs1 := HB1.out.2.2.2.2.1
    have hs2 := HB1.out.2.2.2.2.2.1
    have hs3 := HB1.out.2.2.2.2.2.2
    refine (wpIn_wide (n := 3)).1 ?_
    refine wpIn_rangeFunc_goes rfl (by omega) (gf := 70) (lb := #[.pointer (some ⟨wc.heap.size, 0, none⟩), .pointer (some ⟨wc.heap.size + 1, 0, none⟩), .pointer (some ⟨wc.heap.size + 1 + 1 + 1, 0, none⟩), .pointer (some ⟨wc.heap.size + 1 + 1, 0, none⟩)]) rfl trivial (enters_of Try.func70 (by kernel_rfl) rfl)
      (others_goes (3 - 1) (by omega) _ _ _ _ _ xs i at_ q X w W0 HB1.out.2.2.2.1 HD.out.1 HD.out.2.1 HD.out.2.2.2.1 HD.out.2.2.1 HX.out HI.out HU.out) Kp4.trans (Kp4.b (by omega) (by omega) (by omega) (by omega) (by omega)) (Below.refl _ _) (fun _ => rfl)
      (fun pre W => Boxed W w.heap.size 22 (.int .u64 q) ∧ Boxed W B1 22 (.int .u64 (prodI q (pre.map (·.1)))) ∧ Boxed W B2 22 (.int .u64 (prodI q (pre.map (·.2)))) ∧ Below w.heap.size w W ∧ W0.heap.size ≤ W.heap.size)
      (fun pre X' Y row hs hg hrow => by
        obtain ⟨s1, s2, s3, s4, s5⟩ := hs
        have hr' := fun r e => (hrow r e).2
        exact ⟨s1.kept hg (boxNe s1 hr'), s2.kept hg (boxNe s2 hr'), s3.kept hg (boxNe s3 hr'), s4.grown hg s4.size (fun k e => by have := (hrow k e).1; omega), Nat.le_trans s5 hg.size⟩)
      ⟨HB1.out.2.2.1, HB1.out.1, HB1.out.2.1, HB1.out.2.2.2.1, Nat.le_refl _⟩
      (fun e a' W => (U64 e.1 ∧ U64 e.2) ∧ a' = { tmps := #[.slice A1 xs.length c1, .int .i64 i, .int .u64 at_, .int .u64 q, undef, undef, undef, .pointer (some ⟨w.heap.size, 0, none⟩), .int .u64 0, .int .u64 0, .int .i64 0, .pointer (some ⟨B1, 0, none⟩), .pointer (some ⟨B2, 0, none⟩), .int .u64 e.1, .int .u64 e.2, undef, undef, u17, u18, u19, u20, .slice A1 xs.length c1, .int .i64 i, .int .u64 at_, .int .u64 q, .func (.func 70) #[] #[.pointer (some ⟨wc.heap.size, 0, none⟩), .pointer (some ⟨wc.heap.size + 1, 0, none⟩), .pointer (some ⟨wc.heap.size + 1 + 1 + 1, 0, none⟩), .pointer (some ⟨wc.heap.size + 1 + 1, 0, none⟩)], .int .u64 e.1, .int .u64 e.2, undef, undef, undef, undef, undef, undef, undef, undef, undef, undef, undef, undef, undef, undef, undef, undef, undef], defers := [] })
      (fun e a' _ X' Y row hs hg hrow => hs)
      ?assign ?body ?done
    case assign =>
      rintro l pre ⟨own, far⟩ W K hi hfx hK
      have hk2 := hK _ W (KeepsFrom.refl _ _) (Kp4.refl _ _ _ _ _ _) hi ⟨hfx, rfl⟩
      clear hK hi hfx
      gi_wp2
      exact hk2
    case body =>
      rintro l pre ⟨own, far⟩ a' W hl ⟨hbq, hb1, hb2, hbl, hws⟩ ⟨⟨hu1, hu2⟩, rfl⟩ hlt
      obtain ⟨p1, hp1⟩ : ∃ p1, p1 = prodI q (pre.map (·.1)) := ⟨_, rfl⟩
      obtain ⟨p2, hp2⟩ : ∃ p2, p2 = prodI q (pre.map (·.2)) := ⟨_, rfl⟩
      rw [← hp1] at hb1
      rw [← hp2] at hb2
      have HSN : Hid (prodI q ((pre ++ [(own, far)]).map (·.1)) = mulI p1 own q ∧ prodI q ((pre ++ [(own, far)]).map (·.2)) = mulI p2 far q) := Lib.hid ⟨by rw [List.map_append, hp1]; exact prodI_snoc _ _ _, by rw [List.map_append, hp2]; exact prodI_snoc _ _ _⟩
      have HP : Hid (U64 p1 ∧ U64 p2 ∧ U64 own ∧ U64 far) := Lib.hid ⟨by rw [hp1]; exact prodI_U64 _ HQ.out _, by rw [hp2]; exact prodI_U64 _ HQ.out _, hu1, hu2⟩
      clear hp1 hp2 hu1 hu2 hlt
      obtain ⟨E, hE⟩ : ∃ E : ShE, E = { w := w, W0 := W0, W := W, q := q, p1 := p1, p2 := p2, p1' := mulI p1 own q, p2' := mulI p2 far q, B1 := B1, B2 := B2, C1 := wc.heap.size, C2 := wc.heap.size + 1, C3 := wc.heap.size + 1 + 1 + 1, C4 := wc.heap.size + 1 + 1 } := ⟨_, rfl⟩
      have HE : Hid (E.Ok ∧ E.p1 = p1 ∧ E.p2 = p2 ∧ E.w = w ∧ E.q = q ∧ E.w.heap.size = w.heap.size ∧ E.B1 = B1 ∧ E.B2 = B2 ∧ E.p1' = mulI p1 own q ∧ E.p2' = mulI p2 far q) := Lib.hid (by subst hE; exact ⟨⟨kb1, kb2, kb12, ⟨hs1, hs2, by show wc.heap.size < W0.heap.size; omega⟩, ⟨by show B1 < wc.heap.size + 1; omega, by show B2 < wc.heap.size + 1; omega, by show wc.heap.size + 1 < W0.heap.size; omega⟩, ⟨by show B1 < wc.heap.size + 1 + 1 + 1; omega, by show B2 < wc.heap.size + 1 + 1 + 1; omega, by show wc.heap.size + 1 + 1 + 1 < W0.heap.size; omega⟩, ⟨by show B1 < wc.heap.size + 1 + 1; omega, by show B2 < wc.heap.size + 1 + 1; omega, by show wc.heap.size + 1 + 1 < W0.heap.size; omega⟩⟩, rfl, rfl, rfl, rfl, rfl, rfl, rfl, rfl, rfl⟩)
      have HC0 : Hid (∀ D : Array Bool, D.getD 8 false = false → D.getD 9 false = false → E.C D W.drew) := Lib.hid (fun D h8 h9 => by
        subst hE
        unfold ShE.C
        rw [h8, h9]
        exact ⟨hbq, hb1, hb2, (keeps_none (grown_drewN' W 1)).from _, Kp4.grown (grown_drewN' W 1) (by show w.heap.size ≤ W.heap.size; omega) (by show wc.heap.size < W.heap.size; omega) (by show wc.heap.size + 1 < W.heap.size; omega) (by show wc.heap.size + 1 + 1 + 1 < W.heap.size; omega) (by show wc.heap.size + 1 + 1 < W.heap.size; omega), hbl.trans ((below_grown (grown_drewN' W 1)).mono (by show w.heap.size ≤ W.heap.size; omega)), hws⟩)
      have HF : Hid (∀ D V, D.getD 8 false = true → D.getD 9 false = true → E.C D V → KeepsFrom W0.heap.size W V ∧ Kp4 w.heap.size wc.heap.size (wc.heap.size + 1) (wc.heap.size + 1 + 1 + 1) (wc.heap.size + 1 + 1) W V ∧ Boxed V w.heap.size 22 (.int .u64 q) ∧ Boxed V B1 22 (.int .u64 (prodI q ((pre ++ [(own, far)]).map (·.1)))) ∧ Boxed V B2 22 (.int .u64 (prodI q ((pre ++ [(own, far)]).map (·.2)))) ∧ Below w.heap.size w V ∧ W0.heap.size ≤ V.heap.size) := Lib.hid (fun D V h8 h9 h => by
        rw [HSN.out.1, HSN.out.2]
        subst hE
        unfold ShE.C at h
        rw [h8, h9] at h
        exact ⟨h.from', h.kp, h.q, ShE.At.one h, ShE.At.two h, h.bl, h.sz⟩)
      clear hE hbq hb1 hb2 hbl hws
      dsimp only
      gi_wp2
      refine wpIn_round_any (l0 := l) (R := fun _ V => KeepsFrom W0.heap.size W V ∧ Kp4 w.heap.size wc.heap.size (wc.heap.size + 1) (wc.heap.size + 1 + 1 + 1) (wc.heap.size + 1 + 1) W V ∧ Boxed V w.heap.size 22 (.int .u64 q) ∧ Boxed V B1 22 (.int .u64 (prodI q ((pre ++ [(own, far)]).map (·.1)))) ∧ Boxed V B2 22 (.int .u64 (prodI q ((pre ++ [(own, far)]).map (·.2)))) ∧ Below w.heap.size w V ∧ W0.heap.size ≤ V.heap.size) (by kernel_rfl) (by kernel_rfl) (fun a w h => ⟨rfl, h⟩) ?_
      refine wpAny_flag 10 E.C [.int .u64 p1, .int .u64 own, .int .u64 q, .int .u64 (mulI p1 own q), .int .u64 p2, .int .u64 far, .int .u64 q, .int .u64 (mulI p2 far q), undef, undef] (by kernel_rfl) rfl (HC0.out _ (by kernel_rfl) (by kernel_rfl)) ?_ ?_
      -- op 0 (slot 28): load
      refine FlagR.step [] (by kernel_rfl) (fun D V hsz hD hav hC => ?_) ?_
      · refine askc_do rfl fun K hK => ?_
        have hb := (ShE.C.one hC (hav 8 (by kernel_rfl))).cell
        rw [HE.out.2.1, HE.out.2.2.2.2.2.2.1] at hb
        go_simp
        exact hK _ _ rfl rfl (ShE.C.grown HE.out.1 hC (World.grownBy.refl _ none) 0 (by decide) (by decide))
      -- op 1 (slot 29): move
      refine FlagR.step [] (by kernel_rfl) (fun D V hsz hD hav hC => ?_) ?_
      · refine askc_do rfl fun K hK => ?_
        go_simp
        exact hK _ _ rfl rfl (ShE.C.grown HE.out.1 hC (World.grownBy.refl _ none) 1 (by decide) (by decide))
      -- op 2 (slot 30): load
      refine FlagR.step [] (by kernel_rfl) (fun D V hsz hD hav hC => ?_) ?_
      · refine askc_do rfl fun K hK => ?_
        have hb := hC.q.cell
        rw [HE.out.2.2.2.2.1, HE.out.2.2.2.2.2.1] at hb
        go_simp
        exact hK _ _ rfl rfl (ShE.C.grown HE.out.1 hC (World.grownBy.refl _ none) 2 (by decide) (by decide))
      -- op 3 (slot 31): call
      refine FlagR.step [(0, 28), (1, 29), (2, 30)] (by kernel_rfl) (fun D V hsz hD hav hC => ?_) ?_
      · rintro _ rfl
        rintro _ rfl
        rintro _ rfl
        refine askc_do rfl fun K hK => ?_
        go_simp
        refine (mul_gr p1 own q V HP.out.1 HP.out.2.2.1).mono ?_
        rintro e V2 ⟨rfl, hg⟩
        exact hK _ _ rfl rfl (ShE.C.grown HE.out.1 hC hg 3 (by decide) (by decide))
      -- op 4 (slot 32): load
      refine FlagR.step [] (by kernel_rfl) (fun D V hsz hD hav hC => ?_) ?_
      · refine askc_do rfl fun K hK => ?_
        have hb := (ShE.C.two hC (hav 9 (by kernel_rfl))).cell
        rw [HE.out.2.2.1, HE.out.2.2.2.2.2.2.2.1] at hb
        go_simp
        exact hK _ _ rfl rfl (ShE.C.grown HE.out.1 hC (World.grownBy.refl _ none) 4 (by decide) (by decide))
      -- op 5 (slot 33): move
      refine FlagR.step [] (by kernel_rfl) (fun D V hsz hD hav hC => ?_) ?_
      · refine askc_do rfl fun K hK => ?_
        go_simp
        exact hK _ _ rfl rfl (ShE.C.grown HE.out.1 hC (World.grownBy.refl _ none) 5 (by decide) (by decide))
      -- op 6 (slot 34): load
      refine FlagR.step [] (by kernel_rfl) (fun D V hsz hD hav hC => ?_) ?_
      · refine askc_do rfl fun K hK => ?_
        have hb := hC.q.cell
        rw [HE.out.2.2.2.2.1, HE.out.2.2.2.2.2.1] at hb
        go_simp
        exact hK _ _ rfl rfl (ShE.C.grown HE.out.1 hC (World.grownBy.refl _ none) 6 (by decide) (by decide))
      -- op 7 (slot 35): call
      refine FlagR.step [(4, 32), (5, 33), (6, 34)] (by kernel_rfl) (fun D V hsz hD hav hC => ?_) ?_
      · rintro _ rfl
        rintro _ rfl
        rintro _ rfl
        refine askc_do rfl fun K hK => ?_
        go_simp
        refine (mul_gr p2 far q V HP.out.2.1 HP.out.2.2.2).mono ?_
        rintro e V2 ⟨rfl, hg⟩
        exact hK _ _ rfl rfl (ShE.C.grown HE.out.1 hC hg 7 (by decide) (by decide))
      -- op 8 (slot none): store
      refine FlagR.step [(3, 31)] (by kernel_rfl) (fun D V hsz hD hav hC => ?_) ?_
      · rintro _ rfl
        refine askc_do rfl fun K hK => ?_
        have hc0 := ShE.C.one hC (hav 8 (by kernel_rfl))
        have hcc := hc0.cell
        have hcf := hc0.frozen
        rw [HE.out.2.1] at hcc
        rw [HE.out.2.2.2.2.2.2.1] at hcc hcf
        have hfin := ShE.C.set1 HE.out.1 hC hsz
        rw [HE.out.2.2.2.2.2.2.1, HE.out.2.2.2.2.2.2.2.2.1] at hfin
        go_simp
        exact hK _ _ rfl rfl hfin
      -- op 9 (slot none): store
      refine FlagR.step [(7, 35)] (by kernel_rfl) (fun D V hsz hD hav hC => ?_) ?_
      · rintro _ rfl
        refine askc_do rfl fun K hK => ?_
        have hc0 := ShE.C.two hC (hav 9 (by kernel_rfl))
        have hcc := hc0.cell
        have hcf := hc0.frozen
        rw [HE.out.2.2.1] at hcc
        rw [HE.out.2.2.2.2.2.2.2.1] at hcc hcf
        have hfin := ShE.C.set2 HE.out.1 hC hsz
        rw [HE.out.2.2.2.2.2.2.2.1, HE.out.2.2.2.2.2.2.2.2.2] at hfin
        go_simp
        exact hK _ _ rfl rfl hfin
      · trivial
      · intro D V hall hC
        have hfin := HF.out D V (hall 8 (by omega)) (hall 9 (by omega)) hC
        clear hC hall
        intro x0 _ x1 _ x2 _ x3 _ x4 _ x5 _ x6 _ x7 _ x8 _ x9 _
        refine wpList_nil ?_
        exact ⟨rfl, hfin⟩
    case done =>
      rintro D zs W hD rfl ⟨hbq, hb1, hb2, hbl, hws⟩ hK
      have hre := HRE.out
      have HIN := Lib.hid (fun w' => inv_may (prodI q ((othersI q xs i at_).map (·.1))) q w' (prodI_U64 q HQ.out _) HQ.out)
      rw [hre] at HIN
      have c1' := hb1.cell
      have c2' := hb2.cell
      have cq' := hbq.cell
      have HK := Lib.hid (And.intro hbl (And.intro hK hD))
      clear hbq hb1 hb2 hbl hK hre
      go_wp2_with ((with_reducible refine (HIN.out _).mono ?_); rintro e W5 ⟨rfl, n5, rfl⟩)
      go_region_held3 (fun w' => w'.cell? ⟨B2, 0, none⟩ = some (.int .u64 (prodI q ((othersI q xs i at_).map (·.2))))) (go_keep) (fail)
      all_goals (go_wp2_with fail)
      obtain ⟨hbl, hK, hD⟩ := HK.out
      refine ⟨by simp, .inl ⟨_, _, rfl, run_takeDeferred (w := (W.drewN n5).drew) hK, ?_⟩⟩
      have hle : w.heap.size ≤ W0.heap.size := by omega
      have hfin : w.grownBy (((W.drewN n5).drew).putObj D (.deferred none)) none := grownBy_drewN (grown_of_below (hbl.trans (belowK_b (w := W0) hle W D _ (.deferred none) hD hK rfl rfl))) (n5 + 1)
      exact ⟨_, results_tmp3 rfl _ _ _, rfl, hfin⟩
end Go.Proofs.Ytlhjbllfcbojmaa

namespace Go.Proofs.Ytlhjbllfcbojmaa
open Go Go.RowKit Go.Shelf Go.Maps

theorem pmay_any (m : Int) (w : World) (hm : U64 m) :
    Calls Try.prog 66 #[.int .u64 m] w fun e w' => e = .returned (.bool (mayB m)) ∧ w = w' := by
  have hm0 := hm.1
  have hm1 := hm.2
  clear hm
  by_cases h0 : 0 < m
  · by_cases h1 : m ≤ 2305843009213693952
    · have hr : mayB m = true := by simp [mayB, h0, h1]
      rw [hr]
      clear hr
      have h2 : decide (m ≤ 2305843009213693952) = true := by simpa using h1
      go_enter Try.func66, Try.ntmps66
      go_wp2
      go_ret
      exact ⟨rfl, rfl⟩
    · have hr : mayB m = false := by simp [mayB, h1]
      rw [hr]
      clear hr
      have h2 : decide (m ≤ 2305843009213693952) = false := by simpa using h1
      go_enter Try.func66, Try.ntmps66
      go_wp2
      go_ret
      exact ⟨by simp, rfl⟩
  · have hr : mayB m = false := by simp [mayB, h0]
    rw [hr]
    clear hr
    go_enter Try.func66, Try.ntmps66
    go_wp2
    go_ret
    exact ⟨rfl, rfl⟩
/-- The numbers of a list, each once. -/
def seenL (l : List Int) : List Int := l.foldl (fun s x => bif s.contains x then s else s ++ [x]) []
theorem seenL_snoc (l : List Int) (x : Int) : seenL (l ++ [x]) = bif (seenL l).contains x then seenL l else seenL l ++ [x] := by simp only [seenL, List.foldl_append, List.foldl_cons, List.foldl_nil]
/-- What is wrong with places. -/
def unlikeI (xs : List Int) (q : Int) : Int := if mayB q = false then 1 else if 1024 < xs.length then 40 else if (seenL (xs.map (· % q))).length < xs.length then 6 else 0
theorem lawU : Keyed Try.prog 22 := int_keyed Try.underlying22
theorem zeroI (w : World) : (zeroValue 3).run Try.prog w = .ok (.int .i64 0) w := by kernel_rfl
/-- A map of what was met. -/
def Met' (D : DataW Unit) (pre : List Int) : Prop := Maps.Tidy D ∧ Maps.size D = (seenL pre).length ∧ ∀ x, Maps.has D (.int .u64 x) = (seenL pre).contains x
theorem Met'.nil : Met' (.map []) [] := ⟨tidy_empty, rfl, fun _ => rfl⟩
theorem Met'.put {D : DataW Unit} {pre : List Int} (h : Met' D pre) (x : Int) (d : DataW Unit) : Met' (D.put (.int .u64 x) d) (pre ++ [x]) := by
  obtain ⟨h1, h2, h3⟩ := h
  have hk : WideAt.IsKeyLit (.int .u64 x) := trivial
  refine ⟨h1.put hk d, ?_, fun y => ?_⟩
  · rw [size_put h1, h3 x, seenL_snoc]
    cases (seenL pre).contains x
    · simp [h2]
    · simp [h2]
  · rw [seenL_snoc]
    by_cases e : y = x
    · subst e
      rw [has_put_same h1.isMap hk]
      cases hc : (seenL pre).contains y
      · simp
      · simp only [cond_true, hc]
    · rw [has_put_other (by intro e'; injection e' with _ e'; exact e e'), h3 y]
      cases (seenL pre).contains x
      · have e' : (y == x) = false := by simpa using e
        simp [e]
      · rfl
theorem run_makeMap_hint (n : Int) (w : World) : (Instr.makeMap 96 (some (.int .i64 n))).run Try.prog w = .ok (.map (some w.heap.size)) (w.alloc (.map #[] 0)) := by
  simp [Instr.makeMap, run_underlying Try.underlying96, asInt, asIntOf, Result.andThen]
set_option maxRecDepth 100000 in
set_option maxHeartbeats 1000000 in
theorem unlike_any (v : Value) (xs : List Int) (q : Int) (X : Nat → Prop) (w : World) (h : Sl encU X w v xs) (hq : U64 q) :
    Calls Try.prog 63 #[v, .int .u64 q] w fun e w' => e = .returned (.int .i64 (unlikeI xs q)) ∧ w.grownBy w' none := by
  have H := Lib.hid h
  have HQ := Lib.hid hq
  obtain ⟨A, c, rfl, hc1, hc2⟩ := h.form
  clear h hq
  cases hm : mayB q with
  | false =>
    have hr : unlikeI xs q = 1 := by simp [unlikeI, hm]
    rw [hr]
    have HM := Lib.hid hm
    clear hr hm
    go_enter Try.func63, Try.ntmps63
    go_wp2_with ((with_reducible refine (pmay_any q _ HQ.out).mono ?_); rw [HM.out]; rintro e w' ⟨rfl, rfl⟩)
    go_ret
    exact ⟨rfl, World.grownBy.refl _ none⟩
  | true =>
    have HM := Lib.hid hm
    have hq0 : 0 < q := by simp [mayB] at hm; exact hm.1
    have hqn : ¬ q = 0 := by omega
    by_cases hl : 1024 < xs.length
    · have hr : unlikeI xs q = 40 := by simp [unlikeI, hm, hl]
      rw [hr]
      clear hr hm
      generalize xs.length = n at *
      go_enter Try.func63, Try.ntmps63
      go_wp2_with ((with_reducible refine (pmay_any q _ HQ.out).mono ?_); rw [HM.out]; rintro e w' ⟨rfl, rfl⟩)
      go_ret
      exact ⟨rfl, World.grownBy.refl _ none⟩
    · obtain ⟨res, hr⟩ : ∃ res, res = unlikeI xs q := ⟨_, rfl⟩
      have HRES : Hid (res = if (seenL (xs.map (· % q))).length < xs.length then 6 else 0) := Lib.hid (by rw [hr]; simp [unlikeI, hm, hl])
      rw [← hr]
      clear hr hm
      have HR0 : Hid (Met' (.map []) ((xs.take 0).map (· % q))) := Lib.hid Met'.nil
      have HT : Hid (∀ k (hk : k < xs.length), (xs.take (k + 1)).map (· % q) = (xs.take k).map (· % q) ++ [xs[k] % q]) := Lib.hid (fun k hk => by rw [List.take_succ_eq_append_getElem hk, List.map_append]; rfl)
      obtain ⟨n, hn⟩ : ∃ n, n = xs.length := ⟨_, rfl⟩
      have HN := Lib.hid hn
      rw [← hn] at hc1 hl ⊢
      clear hn
      have hmm := @run_makeMap_hint
      go_enter Try.func63, Try.ntmps63
      go_wp2_with ((with_reducible refine (pmay_any q _ HQ.out).mono ?_); rw [HM.out]; rintro e w' ⟨rfl, rfl⟩)
      go_loopg [21] n (fun g s21 wx => ∃ (k : Nat) (D : DataW Unit), k + g = n ∧ s21 = .int .i64 k ∧ Hid (wx.ownsMap Try.prog 22 (plainElem Try.prog 3) w.heap.size k D ∧ Met' D ((xs.take k).map (· % q)) ∧ Below w.heap.size w wx))
      case atStart => exact ⟨0, .map [], by omega, rfl, Lib.hid ⟨World.ownsMap_made _ _ _ _, HR0.out, (Below.refl _ _).alloc (Nat.le_refl _) _⟩⟩
      case round =>
        obtain ⟨k, D, hk, rfl, HR⟩ := hrel
        cases gk with
        | zero =>
          obtain rfl : k = n := by omega
          have hsz : Maps.size D = (seenL (xs.map (· % q))).length := by rw [HR.out.2.1.2.1, HN.out, List.take_length]
          have HS := Lib.hid hsz
          have HBL := Lib.hid HR.out.2.2
          have hown := HR.out.1
          clear HR hsz
          by_cases hlt : (seenL (xs.map (· % q))).length < k
          · rw [← HS.out] at hlt
            have hlt' : decide (((Maps.size D : Nat) : Int) < (k : Int)) = true := by simpa using hlt
            go_wp2_with (first | (at_len; refine wpList_len_own _ rfl _ 96 rfl 22 3 Try.underlying96 _ w.heap.size k D rfl hown ?_) | go_in)
            go_ret
            exact ⟨by rw [HRES.out, ← HS.out, ← HN.out]; simp [hlt], grown_of_below HBL.out⟩
          · rw [← HS.out] at hlt
            have hlt' : decide (((Maps.size D : Nat) : Int) < (k : Int)) = false := by simpa using hlt
            go_wp2_with (first | (at_len; refine wpList_len_own _ rfl _ 96 rfl 22 3 Try.underlying96 _ w.heap.size k D rfl hown ?_) | go_in)
            go_ret
            exact ⟨by rw [HRES.out, ← HS.out, ← HN.out]; simp [hlt], grown_of_below HBL.out⟩
        | succ m =>
          have hkn : (k : Int) < (n : Int) := by omega
          have hkl : k < xs.length := by rw [← HN.out]; omega
          have hown := HR.out.1
          obtain ⟨g, of, c', e, _, _, hcell, hu⟩ := ((H.out.kept (grown_of_below HR.out.2.2)).atU hkl)
          injection e with e1 e2 e3
          subst e1 e3
          have hb := emod_bd xs[k] q hq0
          have HP : Hid (Met' (D.put (.int .u64 (Int.tmod xs[k] q)) (.lit (.int .i64 0))) ((xs.take (k + 1)).map (· % q))) := Lib.hid (by rw [HT.out k hkl, Int.tmod_eq_emod_of_nonneg hu.1]; exact HR.out.2.1.put _ _)
          have hwf : (Lit.int .u64 (Int.tmod xs[k] q)).wf = true := by rw [Int.tmod_eq_emod_of_nonneg hu.1]; exact WalkArith.wf_u64 ⟨hb.1, by have := (emod_U64 xs[k] q hu hq0).2; omega⟩
          have HBL := Lib.hid HR.out.2.2
          have HT' := Lib.hid (HT.out k hkl)
          have HME := Lib.hid HR.out.2.1
          have HUX := Lib.hid hu
          have HWF := Lib.hid hwf
          clear HP HR hb hu hwf
          have HMP : Hid (∀ d, Met' (D.put (.int .u64 (Int.tmod xs[k] q)) d) ((xs.take (k + 1)).map (· % q))) := Lib.hid (fun d => by rw [HT'.out, Int.tmod_eq_emod_of_nonneg HUX.out.1]; exact HME.out.put _ d)
          clear HT' HME HUX
          generalize xs[k] = xk at *
          go_wp2_with (first
            | (at_lookup; refine wpList_lookup_own_int _ rfl _ _ 96 rfl 22 3 .i64 lawU Try.underlying96 Try.underlying3 (zeroI _) w.heap.size k D rfl hown _ _ rfl (keyOf_int_mk Try.underlying22 HWF.out) ?_; intro c0 hat hwc)
            | (at_mapUpdate; refine wpList_mapUpdate_own _ rfl _ _ _ 96 rfl 22 3 lawU Try.underlying96 _ w.heap.size k D rfl hown (by unfold maxLen; omega) _ _ _ rfl rfl (keyOf_int_mk Try.underlying22 HWF.out) _ [] (plainElem_int Try.underlying3 (wrap64_wf _)) ?_; intro w1 hown1 hgrow1)
            | go_in)
          go_roundg m
          case measure => omega
          case rel => exact ⟨k + 1, _, by omega, by go_num, Lib.hid ⟨hown1, HMP.out _, HBL.out.grown hgrow1 HBL.out.size (fun j hj => by cases hj; exact Nat.le_refl _)⟩⟩
end Go.Proofs.Ytlhjbllfcbojmaa

namespace Go.Proofs.Ytlhjbllfcbojmaa
open Go Go.RowKit Go.Shelf

def underI (q : Int) (xs : List Int) (at_ : Int) (i : Nat) : Int := prodI q ((othersI q xs i at_).map (·.1))
def overI (q : Int) (xs : List Int) (at_ : Int) (i : Nat) : Int := prodI q ((othersI q xs i at_).map (·.2))
theorem shareV_yes {q : Int} {xs : List Int} {i : Nat} {at_ : Int} (h : HasInv (underI q xs at_ i) q) : shareV q xs i at_ = .tuple #[.int .u64 (invI (underI q xs at_ i) q), .int .u64 (overI q xs at_ i), .int .i64 0] := by
  unfold shareV
  exact if_pos h
theorem shareV_no {q : Int} {xs : List Int} {i : Nat} {at_ : Int} (h : ¬ HasInv (underI q xs at_ i) q) : shareV q xs i at_ = .tuple #[.int .u64 0, .int .u64 (overI q xs at_ i), .int .i64 5] := by
  unfold shareV
  exact if_neg h
/-- A weight. -/
noncomputable def wAt (q : Int) (xs : List Int) (at_ : Int) (i : Nat) : Int := mulI (invI (underI q xs at_ i) q) (overI q xs at_ i) q
open Classical in
/-- What is wrong with weights. -/
noncomputable def wErr (q : Int) (xs : List Int) (at_ : Int) : Int := if unlikeI xs q = 0 then (if ∀ i, i < xs.length → HasInv (underI q xs at_ i) q then 0 else 5) else unlikeI xs q
noncomputable def wList (q : Int) (xs : List Int) (at_ : Int) : List Int := if wErr q xs at_ = 0 then (List.range xs.length).map (wAt q xs at_) else []
theorem unlikeI_zero {xs : List Int} {q : Int} (h : unlikeI xs q = 0) : mayB q = true ∧ xs.length ≤ 1024 := by
  unfold unlikeI at h
  split at h
  · omega
  · split at h
    · omega
    · exact ⟨by simpa using ‹¬ mayB q = false›, by omega⟩
theorem invI_U64 {a q : Int} (hq : mayB q = true) (h : HasInv a q) : U64 (invI a q) := by
  have := invI_spec h
  simp [mayB] at hq
  exact ⟨this.1, by omega⟩
set_option maxRecDepth 100000 in
set_option maxHeartbeats 1000000 in
theorem weights_any (v : Value) (xs : List Int) (at_ q : Int) (X : Nat → Prop) (w : World) (h : Sl encU X w v xs) (hu : U64 at_) (hq : U64 q) :
    Calls Try.prog 53 #[v, .int .u64 at_, .int .u64 q] w (GivesE encU (fun g => w.heap.size ≤ g) w (wList q xs at_) (wErr q xs at_)) := by
  have H := Lib.hid h
  have HA := Lib.hid hu
  have HUN := Lib.hid (unlike_any v xs q X w h hq)
  obtain ⟨A, c, rfl, hc1, hc2⟩ := h.form
  clear h hu
  obtain ⟨we, hwe⟩ : ∃ we, we = wErr q xs at_ := ⟨_, rfl⟩
  obtain ⟨wl, hwl⟩ : ∃ wl, wl = wList q xs at_ := ⟨_, rfl⟩
  rw [← hwe, ← hwl]
  have HWL : Hid ((we = 0 → wl = (List.range xs.length).map (wAt q xs at_)) ∧ (¬ we = 0 → wl = [])) := Lib.hid ⟨fun e => by rw [hwl, wList, ← hwe, if_pos e], fun e => by rw [hwl, wList, ← hwe, if_neg e]⟩
  clear hwl
  by_cases hun : unlikeI xs q = 0
  · obtain ⟨hm, hl⟩ := unlikeI_zero hun
    have HM := Lib.hid hm
    have HWE : Hid (((∀ i, i < xs.length → HasInv (underI q xs at_ i) q) → we = 0) ∧ (∀ i, i < xs.length → ¬ HasInv (underI q xs at_ i) q → we = 5)) := Lib.hid ⟨fun e => by rw [hwe, wErr, if_pos hun, if_pos e], fun i hi e => by rw [hwe, wErr, if_pos hun, if_neg (fun hx => e (hx i hi))]⟩
    rw [hun] at HUN
    have HLN : Hid (xs.length ≤ 1024) := Lib.hid hl
    clear hwe hun hm
    go_enter Try.func53, Try.ntmps53
    go_wp2_with (refine HUN.out.mono ?_; rintro e w1 ⟨rfl, hg1⟩)
    have HG1 := Lib.hid hg1
    clear hg1 HUN
    go_wp2_with fail
    go_loopg [9, 22] xs.length (fun g s9 s22 wx => ∃ j : Nat, j + g = xs.length ∧ s22 = .int .i64 j ∧ Hid (Acc encU w.heap.size 22 (fun g => w.heap.size ≤ g) wx s9 ((List.range j).map (wAt q xs at_)) ∧ w.grownBy wx none ∧ ∀ i, i < j → HasInv (underI q xs at_ i) q))
    case atStart => exact ⟨0, by omega, rfl, Lib.hid ⟨Acc.nil _ _ _ _ _, HG1.out, fun i hi => absurd hi (by omega)⟩⟩
    case round =>
      obtain ⟨j, hj, rfl, HX⟩ := hrel
      cases gk with
      | zero =>
        obtain rfl : j = xs.length := by omega
        have h0 : we = 0 := HWE.out.1 HX.out.2.2
        subst h0
        have HR : Hid (Sl encU (fun g => w.heap.size ≤ g) wr u9 wl ∧ w.grownBy wr none) := Lib.hid ⟨by have := HX.out.1.sl; rwa [← HWL.out.1 rfl] at this, HX.out.2.1⟩
        clear HX HWL HWE
        go_wp2
        go_ret2
        exact ⟨_, rfl, HR.out.1, HR.out.2⟩
      | succ m =>
        have hjn : (j : Int) < (xs.length : Int) := by omega
        have hjN : j < xs.length := by omega
        have HS := Lib.hid (polyShare_any _ xs j at_ q X wr (H.out.kept HX.out.2.1) hjN HA.out HM.out)
        by_cases hi : HasInv (underI q xs at_ j) q
        · rw [shareV_yes hi] at HS
          have HU1 := Lib.hid (invI_U64 HM.out hi)
          have HU2 : Hid (U64 (overI q xs at_ j)) := Lib.hid (prodI_U64 q HM.out _)
          have HU3 : Hid (U64 (wAt q xs at_ j)) := Lib.hid (by have := mulI_bd (invI (underI q xs at_ j) q) (overI q xs at_ j) q HM.out; have h2 := HM.out; simp [mayB] at h2; exact ⟨this.1, by unfold wAt; omega⟩)
          have HSN : Hid ((List.range (j + 1)).map (wAt q xs at_) = (List.range j).map (wAt q xs at_) ++ [wAt q xs at_ j]) := Lib.hid (by simp [List.range_succ])
          have HI : Hid (∀ i, i < j + 1 → HasInv (underI q xs at_ i) q) := Lib.hid (fun i hi' => by
            rcases Nat.lt_or_ge i j with h' | h'
            · exact HX.out.2.2 i h'
            · obtain rfl : i = j := by omega
              exact hi)
          have HAC := Lib.hid HX.out.1
          have HG := Lib.hid HX.out.2.1
          have HLB : Hid ((((List.range j).map (wAt q xs at_)).length + 1) * 8 ≤ 140737488355328) := Lib.hid (by simp; omega)
          clear hi HX
          have hwv : mulI (invI (underI q xs at_ j) q) (overI q xs at_ j) q = wAt q xs at_ j := rfl
          have HMU := Lib.hid (fun w' => mul_gr (invI (underI q xs at_ j) q) (overI q xs at_ j) q w' HU1.out HU2.out)
          rw [hwv] at HMU
          clear hwv
          generalize xs.length = n at *
          go_wp2_with (go_at_call 64; refine HS.out.mono ?_; rintro e2 w2 ⟨rfl, hg2⟩)
          have HG2 := Lib.hid (HG.out.trans hg2)
          have HA2 := Lib.hid (HAC.out.kept hg2)
          clear hg2 HS
          go_wp2_with fail
          refine (HMU.out _).mono ?_
          rintro e3 w3 ⟨rfl, hg3⟩
          have HG3 := Lib.hid (HG2.out.trans hg3)
          have HA3 := Lib.hid (HA2.out.kept hg3)
          clear hg3 HMU
          go_wp2_with (at_builtin; refine wpList_pushG rfl (.tmp 37) (.tmp 42) rfl (E := encU) el_u64 HG3.out HA3.out (fun _ h => h) ⟨rfl, HU3.out⟩ HLB.out rfl rfl ?_)
          intro v2 w4 hacc2 hg4 hgo
          have HFIN : Hid (Acc encU w.heap.size 22 (fun g => w.heap.size ≤ g) w4 v2 ((List.range (j + 1)).map (wAt q xs at_)) ∧ w.grownBy w4 none ∧ ∀ i, i < j + 1 → HasInv (underI q xs at_ i) q) := Lib.hid ⟨by rw [HSN.out]; simpa using hacc2, hg4, HI.out⟩
          clear hacc2 hg4 hgo
          go_wp2_with fail
          go_roundg m
          case measure => omega
          case rel => exact ⟨j + 1, by omega, by go_num, HFIN⟩
        · rw [shareV_no hi] at HS
          have h5 : we = 5 := HWE.out.2 j hjN hi
          subst h5
          have HG := Lib.hid HX.out.2.1
          have HL0 := Lib.hid (HWL.out.2 (by decide))
          clear hi HX HWL HWE
          go_wp2_with (go_at_call 64; refine HS.out.mono ?_; rintro e2 w2 ⟨rfl, hg2⟩)
          have HG2 := Lib.hid (HG.out.trans hg2)
          clear hg2 HS
          go_wp2_with fail
          go_ret2
          exact ⟨_, rfl, by rw [HL0.out]; exact Sl.nil _ _ _, HG2.out⟩
  · have h0 : we = unlikeI xs q := by rw [hwe, wErr, if_neg hun]
    have HL0 := Lib.hid (HWL.out.2 (by rw [h0]; exact hun))
    clear HWL hwe
    rw [← h0] at HUN hun
    clear h0
    go_enter Try.func53, Try.ntmps53
    go_wp2_with (refine HUN.out.mono ?_; rintro e w1 ⟨rfl, hg1⟩)
    have HG1 := Lib.hid hg1
    clear hg1 HUN
    go_wp2_with fail
    go_ret2
    exact ⟨_, rfl, by rw [HL0.out]; exact Sl.nil _ _ _, HG1.out⟩
end Go.Proofs.Ytlhjbllfcbojmaa

namespace Go.Proofs.Ytlhjbllfcbojmaa
open Go Go.RowKit Go.Shelf

attribute [local go_sem] Oper.semAt_some
end Go.Proofs.Ytlhjbllfcbojmaa

namespace Go.Proofs.Ytlhjbllfcbojmaa
open Go Go.RowKit

/-- A call that found whether there is one. -/
def FoundB (b : Bool) (w : World) (e : Ending) (w' : World) : Prop := ∃ n : Int, e = .returned (.int .i64 n) ∧ decide (0 ≤ n) = b ∧ I64 n ∧ w.grownBy w' none
end Go.Proofs.Ytlhjbllfcbojmaa

namespace Go.Proofs.Ytlhjbllfcbojmaa
open Go Go.RowKit

def secretsI (p : Par) : Int := wrap64 (p.K * wrap64 (p.D + 1))
end Go.Proofs.Ytlhjbllfcbojmaa

namespace Go.Proofs.Ytlhjbllfcbojmaa
open Go Go.RowKit Go.Shelf

theorem ssecrets_any (p : Par) (w : World) :
    Calls Try.prog 24 #[p.v] w fun e w' => e = .returned (.int .i64 (secretsI p)) ∧ w.grownBy w' none := by
  go_enter Try.func24, Try.ntmps24
  go_wp2
  go_ret
  exact ⟨rfl, World.grownBy_alloc w _ none⟩
/-- Whether K and D are within their bounds. -/
def smallB (p : Par) : Bool := decide (0 ≤ p.K ∧ 0 ≤ p.D ∧ p.K ≤ 2 ∧ p.D ≤ 4)
set_option maxHeartbeats 1000000 in
theorem ssmall_any (p : Par) (w : World) :
    Calls Try.prog 25 #[p.v] w fun e w' => e = .returned (.bool (smallB p)) ∧ w.grownBy w' none := by
  obtain ⟨b, hb⟩ : ∃ b, b = smallB p := ⟨_, rfl⟩
  have HB : Hid ((b = true) = (0 ≤ p.K ∧ 0 ≤ p.D ∧ p.K ≤ 2 ∧ p.D ≤ 4)) := Lib.hid (by rw [hb, smallB]; simp)
  rw [← hb]
  clear hb
  by_cases h0 : 0 ≤ min p.K p.D
  · have d0 : decide (min p.K p.D ≥ 0) = true := by simpa using h0
    by_cases h1 : p.K ≤ 2
    · have d1 : decide (p.K ≤ 2) = true := by simpa using h1
      by_cases h2 : p.D ≤ 4
      · have d2 : decide (p.D ≤ 4) = true := by simpa using h2
        obtain rfl : b = true := by rw [HB.out]; omega
        clear h0 h1 h2 HB
        go_enter Try.func25, Try.ntmps25
        go_wp2
        go_ret
        exact ⟨by simp [*], World.grownBy_alloc w _ none⟩
      · have d2 : decide (p.D ≤ 4) = false := by simpa using h2
        obtain rfl : b = false := by rw [← Bool.not_eq_true, HB.out]; omega
        clear h0 h1 h2 HB
        go_enter Try.func25, Try.ntmps25
        go_wp2
        go_ret
        exact ⟨by simp [*], World.grownBy_alloc w _ none⟩
    · have d1 : decide (p.K ≤ 2) = false := by simpa using h1
      obtain rfl : b = false := by rw [← Bool.not_eq_true, HB.out]; omega
      clear h0 h1 HB
      go_enter Try.func25, Try.ntmps25
      go_wp2
      go_ret
      exact ⟨by simp [*], World.grownBy_alloc w _ none⟩
  · have d0 : decide (min p.K p.D ≥ 0) = false := by simpa using h0
    obtain rfl : b = false := by rw [← Bool.not_eq_true, HB.out]; omega
    clear h0 HB
    go_enter Try.func25, Try.ntmps25
    go_wp2
    go_ret
    exact ⟨by simp [*], World.grownBy_alloc w _ none⟩
end Go.Proofs.Ytlhjbllfcbojmaa

namespace Go.Proofs.Ytlhjbllfcbojmaa
open Go Go.RowKit Go.Shelf

set_option maxRecDepth 100000 in
set_option maxHeartbeats 400000 in
theorem allU_any (v : Value) (ls : List (List Int)) (s : Nat) (X : Nat → Prop) (w : World) (h : Sl (encS encU) X w v ls) (hs : ∀ x ∈ ls, s < x.length) (hb : ls.length ≤ 100000) (hb2 : s ≤ 100000) :
    Calls Try.prog 42 #[v, .int .i64 s] w (Gives encU (fun g => w.heap.size ≤ g) w (ls.map fun x => x[s]?.getD 0)) := by
  have H := Lib.hid h
  have HS := Lib.hid hs
  have HB := Lib.hid hb
  obtain ⟨A, c, rfl, hc1, hc2⟩ := h.form
  have hs0 : (0 : Int) ≤ (s : Int) := by omega
  clear h hs hb
  go_enter Try.func42, Try.ntmps42
  go_wp2_with fail
  go_loopg [5, 10] ls.length (fun g s5 s10 wx => ∃ j : Nat, j + g = ls.length ∧ s10 = .int .i64 j ∧ Hid (Acc encU w.heap.size 22 (fun g => w.heap.size ≤ g) wx s5 ((ls.take j).map fun x => x[s]?.getD 0) ∧ w.grownBy wx none))
  case atStart => exact ⟨0, by omega, rfl, Lib.hid ⟨Acc.nil _ _ _ _ _, World.grownBy.refl _ none⟩⟩
  case round =>
    obtain ⟨j, hj, rfl, HX⟩ := hrel
    cases gk with
    | zero =>
      obtain rfl : j = ls.length := by omega
      have HR : Hid (Sl encU (fun g => w.heap.size ≤ g) wr u5 (ls.map fun x => x[s]?.getD 0) ∧ w.grownBy wr none) := Lib.hid ⟨by have := HX.out.1.sl; rwa [List.take_length] at this, HX.out.2⟩
      clear HX
      go_wp2
      go_ret
      exact ⟨_, rfl, HR.out.1, HR.out.2⟩
    | succ m =>
      have hjn : (j : Int) < (ls.length : Int) := by omega
      have hjN : j < ls.length := by omega
      obtain ⟨hacc, hg⟩ := HX.out
      obtain ⟨g, o, c', u, e, _, _, hcu0, hsu⟩ := H.out.atS hjN
      injection e with e1 e2 e3
      subst e1 e3
      have hcu : wr.cell? ⟨g, o + j, none⟩ = some u := cell_kept hcu0 hg (by simp)
      have hsl : s < ls[j].length := HS.out _ (List.getElem_mem hjN)
      have hslI : (s : Int) < (ls[j].length : Int) := by omega
      obtain ⟨A1, c1, e1, hc3, hc4⟩ := hsu.form
      subst e1
      obtain ⟨g2, o2, c2, e2, _, _, hcx, hux⟩ := (hsu.kept hg).atU hsl
      injection e2 with e21 e22 e23
      subst e21 e23
      have HREP : Hid (encU.rep (fun g => (fun g => w.heap.size ≤ g) g ∧ some g ≠ u5.ownBlock) wr [.int .u64 ls[j][s]] ls[j][s]) := Lib.hid ⟨rfl, hux⟩
      have HSN : Hid ((ls.take (j + 1)).map (fun x => x[s]?.getD 0) = (ls.take j).map (fun x => x[s]?.getD 0) ++ [ls[j][s]]) := Lib.hid (by rw [List.take_succ_eq_append_getElem hjN, List.map_append]; simp [hsl])
      have HAC := Lib.hid hacc
      have HG := Lib.hid hg
      have HLB : Hid ((((ls.take j).map fun x => x[s]?.getD 0).length + 1) * 8 ≤ 140737488355328) := Lib.hid (by have := HB.out; simp; omega)
      clear hacc hg hsu HX hcu0 hux
      generalize ls[j][s] = y at *
      generalize ls[j].length = n1 at *
      go_wp2_with (at_builtin; refine wpList_pushG rfl (.tmp 14) (.tmp 19) rfl (E := encU) el_u64 HG.out HAC.out (fun _ h => h) HREP.out HLB.out rfl rfl ?_)
      intro v2 w2 hacc2 hg2 hgo
      have HFIN : Hid (Acc encU w.heap.size 22 (fun g => w.heap.size ≤ g) w2 v2 ((ls.take (j + 1)).map fun x => x[s]?.getD 0) ∧ w.grownBy w2 none) := Lib.hid ⟨by rw [HSN.out]; simpa using hacc2, hg2⟩
      clear hacc2 hg2 hgo
      go_wp2_with fail
      go_roundg m
      case measure => omega
      case rel => exact ⟨j + 1, by omega, by go_num, HFIN⟩
set_option maxRecDepth 100000 in
set_option maxHeartbeats 400000 in
theorem allS_any (v : Value) (ls : List (List (List Int))) (s : Nat) (X : Nat → Prop) (w : World) (h : Sl (encS (encS encU)) X w v ls) (hs : ∀ x ∈ ls, s < x.length) (hb : ls.length ≤ 100000) (hb2 : s ≤ 100000) :
    Calls Try.prog 43 #[v, .int .i64 s] w (Gives (encS encU) (fun g => X g ∨ w.heap.size ≤ g) w (ls.map fun x => x[s]?.getD [])) := by
  have H := Lib.hid h
  have HS := Lib.hid hs
  have HB := Lib.hid hb
  obtain ⟨A, c, rfl, hc1, hc2⟩ := h.form
  have hs0 : (0 : Int) ≤ (s : Int) := by omega
  clear h hs hb
  go_enter Try.func43, Try.ntmps43
  go_wp2_with fail
  go_loopg [5, 10] ls.length (fun g s5 s10 wx => ∃ j : Nat, j + g = ls.length ∧ s10 = .int .i64 j ∧ Hid (Acc (encS encU) w.heap.size 28 (fun g => X g ∨ w.heap.size ≤ g) wx s5 ((ls.take j).map fun x => x[s]?.getD []) ∧ w.grownBy wx none))
  case atStart => exact ⟨0, by omega, rfl, Lib.hid ⟨Acc.nil _ _ _ _ _, World.grownBy.refl _ none⟩⟩
  case round =>
    obtain ⟨j, hj, rfl, HX⟩ := hrel
    cases gk with
    | zero =>
      obtain rfl : j = ls.length := by omega
      have HR : Hid (Sl (encS encU) (fun g => X g ∨ w.heap.size ≤ g) wr u5 (ls.map fun x => x[s]?.getD []) ∧ w.grownBy wr none) := Lib.hid ⟨by have := HX.out.1.sl; rwa [List.take_length] at this, HX.out.2⟩
      clear HX
      go_wp2
      go_ret
      exact ⟨_, rfl, HR.out.1, HR.out.2⟩
    | succ m =>
      have hjn : (j : Int) < (ls.length : Int) := by omega
      have hjN : j < ls.length := by omega
      obtain ⟨hacc, hg⟩ := HX.out
      obtain ⟨g, o, c', u, e, _, _, hcu0, hsu⟩ := H.out.atS hjN
      injection e with e1 e2 e3
      subst e1 e3
      have hcu : wr.cell? ⟨g, o + j, none⟩ = some u := cell_kept hcu0 hg (by simp)
      have hsl : s < ls[j].length := HS.out _ (List.getElem_mem hjN)
      have hslI : (s : Int) < (ls[j].length : Int) := by omega
      obtain ⟨A1, c1, e1, hc3, hc4⟩ := hsu.form
      subst e1
      obtain ⟨g2, o2, c2, ux, e2, _, _, hcx, hux⟩ := (hsu.kept hg).atS hsl
      obtain ⟨_, _, _, ux', e2', _, _, hcx', hux'⟩ := hsu.atS hsl
      injection e2 with e21 e22 e23
      subst e21 e23
      injection e2' with e21 e22 e23
      injection e21 with e21
      injection e21 with e24 e25
      subst e24 e25
      have hcx2 : wr.cell? ⟨g2, o2 + s, none⟩ = some ux' := cell_kept hcx' hg (by simp)
      obtain rfl : ux = ux' := by rw [hcx] at hcx2; injection hcx2
      obtain ⟨A2, c3, e3, _, _⟩ := hux'.form
      subst e3
      have HREP : Hid ((encS encU).rep (fun g => (fun g => X g ∨ w.heap.size ≤ g) g ∧ some g ≠ u5.ownBlock) wr [.slice A2 ls[j][s].length c3] ls[j][s]) := Lib.hid ⟨_, rfl, (hux'.more fun g hlt hX => ⟨.inl hX, fun e => by have := (hacc.lt g e.symm).1; omega⟩).kept hg⟩
      have HSN : Hid ((ls.take (j + 1)).map (fun x => x[s]?.getD []) = (ls.take j).map (fun x => x[s]?.getD []) ++ [ls[j][s]]) := Lib.hid (by rw [List.take_succ_eq_append_getElem hjN, List.map_append]; simp [hsl])
      have HAC := Lib.hid hacc
      have HG := Lib.hid hg
      have HLB : Hid ((((ls.take j).map fun x => x[s]?.getD []).length + 1) * 24 ≤ 140737488355328) := Lib.hid (by have := HB.out; simp; omega)
      clear hacc hg hsu HX hcu0 hux hux' hcx' hcx2
      generalize ls[j][s] = y at *
      generalize ls[j].length = n1 at *
      go_wp2_with (at_builtin; refine wpList_pushG rfl (.tmp 14) (.tmp 19) rfl (E := (encS encU)) el_nums HG.out HAC.out (fun _ h => .inr h) HREP.out HLB.out rfl rfl ?_)
      intro v2 w2 hacc2 hg2 hgo
      have HFIN : Hid (Acc (encS encU) w.heap.size 28 (fun g => X g ∨ w.heap.size ≤ g) w2 v2 ((ls.take (j + 1)).map fun x => x[s]?.getD []) ∧ w.grownBy w2 none) := Lib.hid ⟨by rw [HSN.out]; simpa using hacc2, hg2⟩
      clear hacc2 hg2 hgo
      go_wp2_with fail
      go_roundg m
      case measure => omega
      case rel => exact ⟨j + 1, by omega, by go_num, HFIN⟩
set_option maxRecDepth 100000 in
set_option maxHeartbeats 400000 in
theorem allP_any (v : Value) (ls : List (List (Int × Int))) (s : Nat) (X : Nat → Prop) (w : World) (h : Sl (encS encP) X w v ls) (hs : ∀ x ∈ ls, s < x.length) (hb : ls.length ≤ 100000) (hb2 : s ≤ 100000) :
    Calls Try.prog 34 #[v, .int .i64 s] w (Gives encP (fun g => w.heap.size ≤ g) w (ls.map fun x => x[s]?.getD (0, 0))) := by
  have H := Lib.hid h
  have HS := Lib.hid hs
  have HB := Lib.hid hb
  obtain ⟨A, c, rfl, hc1, hc2⟩ := h.form
  have hs0 : (0 : Int) ≤ (s : Int) := by omega
  clear h hs hb
  go_enter Try.func34, Try.ntmps34
  go_wp2_with fail
  go_loopg [5, 10] ls.length (fun g s5 s10 wx => ∃ j : Nat, j + g = ls.length ∧ s10 = .int .i64 j ∧ Hid (Acc encP w.heap.size 47 (fun g => w.heap.size ≤ g) wx s5 ((ls.take j).map fun x => x[s]?.getD (0, 0)) ∧ w.grownBy wx none))
  case atStart => exact ⟨0, by omega, rfl, Lib.hid ⟨Acc.nil _ _ _ _ _, World.grownBy.refl _ none⟩⟩
  case round =>
    obtain ⟨j, hj, rfl, HX⟩ := hrel
    cases gk with
    | zero =>
      obtain rfl : j = ls.length := by omega
      have HR : Hid (Sl encP (fun g => w.heap.size ≤ g) wr u5 (ls.map fun x => x[s]?.getD (0, 0)) ∧ w.grownBy wr none) := Lib.hid ⟨by have := HX.out.1.sl; rwa [List.take_length] at this, HX.out.2⟩
      clear HX
      go_wp2
      go_ret
      exact ⟨_, rfl, HR.out.1, HR.out.2⟩
    | succ m =>
      have hjn : (j : Int) < (ls.length : Int) := by omega
      have hjN : j < ls.length := by omega
      obtain ⟨hacc, hg⟩ := HX.out
      obtain ⟨g, o, c', u, e, _, _, hcu0, hsu⟩ := H.out.atS hjN
      injection e with e1 e2 e3
      subst e1 e3
      have hcu : wr.cell? ⟨g, o + j, none⟩ = some u := cell_kept hcu0 hg (by simp)
      have hsl : s < ls[j].length := HS.out _ (List.getElem_mem hjN)
      have hslI : (s : Int) < (ls[j].length : Int) := by omega
      obtain ⟨A1, c1, e1, hc3, hc4⟩ := hsu.form
      subst e1
      obtain ⟨g2, o2, c2, e2, _, _, hcx, hcx2, hux⟩ := (hsu.kept hg).atP hsl
      injection e2 with e21 e22 e23
      subst e21 e23
      have HREP : Hid (encP.rep (fun g => (fun g => w.heap.size ≤ g) g ∧ some g ≠ u5.ownBlock) wr [.int .u64 ls[j][s].1, .int .u64 ls[j][s].2] ls[j][s]) := Lib.hid ⟨rfl, hux⟩
      have HSN : Hid ((ls.take (j + 1)).map (fun x => x[s]?.getD (0, 0)) = (ls.take j).map (fun x => x[s]?.getD (0, 0)) ++ [ls[j][s]]) := Lib.hid (by rw [List.take_succ_eq_append_getElem hjN, List.map_append]; simp [hsl])
      have HAC := Lib.hid hacc
      have HG := Lib.hid hg
      have HLB : Hid ((((ls.take j).map fun x => x[s]?.getD (0, 0)).length + 1) * 16 ≤ 140737488355328) := Lib.hid (by have := HB.out; simp; omega)
      clear hacc hg hsu HX hcu0 hux
      generalize ls[j][s] = y at *
      generalize ls[j].length = n1 at *
      go_wp2_with (at_builtin; refine wpList_pushG rfl (.tmp 14) (.tmp 19) rfl (E := encP) el_pair HG.out HAC.out (fun _ h => h) HREP.out HLB.out rfl rfl ?_)
      intro v2 w2 hacc2 hg2 hgo
      have HFIN : Hid (Acc encP w.heap.size 47 (fun g => w.heap.size ≤ g) w2 v2 ((ls.take (j + 1)).map fun x => x[s]?.getD (0, 0)) ∧ w.grownBy w2 none) := Lib.hid ⟨by rw [HSN.out]; simpa using hacc2, hg2⟩
      clear hacc2 hg2 hgo
      go_wp2_with fail
      go_roundg m
      case measure => omega
      case rel => exact ⟨j + 1, by omega, by go_num, HFIN⟩
end Go.Proofs.Ytlhjbllfcbojmaa

namespace Go.Proofs.Ytlhjbllfcbojmaa
open Go Go.RowKit Go.Shelf

set_option maxRecDepth 100000 in
set_option maxHeartbeats 400000 in
theorem sweights_any (v : Value) (at_ : List Int) (q : Int) (X : Nat → Prop) (w : World) (h : Sl encI X w v at_) (hm : ∀ i ∈ at_, 1 ≤ i ∧ i ≤ 7) (hq : U64 q) (hb : at_.length ≤ 100000) :
    Calls Try.prog 28 #[v, .int .u64 q] w (GivesE encU (fun g => w.heap.size ≤ g) w (wList q at_ 0) (wErr q at_ 0)) := by
  have H := Lib.hid h
  have HM := Lib.hid hm
  have HQ := Lib.hid hq
  have HB := Lib.hid hb
  obtain ⟨A, c, rfl, hc1, hc2⟩ := h.form
  clear h hm hq hb
  go_enter Try.func28, Try.ntmps28
  go_wp2_with fail
  go_loopg [6, 11] at_.length (fun g s6 s11 wx => ∃ j : Nat, j + g = at_.length ∧ s11 = .int .i64 j ∧ Hid (Acc encU w.heap.size 22 (fun g => w.heap.size ≤ g) wx s6 (at_.take j) ∧ w.grownBy wx none))
  case atStart => exact ⟨0, by omega, rfl, Lib.hid ⟨Acc.nil _ _ _ _ _, World.grownBy.refl _ none⟩⟩
  case round =>
    obtain ⟨j, hj, rfl, HX⟩ := hrel
    cases gk with
    | zero =>
      obtain rfl : j = at_.length := by omega
      have HR : Hid (Sl encU (fun g => w.heap.size ≤ g) wr u6 at_ ∧ w.grownBy wr none) := Lib.hid ⟨by have := HX.out.1.sl; rwa [List.take_length] at this, HX.out.2⟩
      have HW := Lib.hid (weights_any u6 at_ 0 q _ wr HR.out.1 ⟨by decide, by decide⟩ HQ.out)
      have HS := Lib.hid HR.out.2.size
      clear HX
      go_wp2_with fail
      refine HW.out.mono ?_
      rintro e w1 ⟨v1, rfl, hs1, hg1⟩
      have HF : Hid (Sl encU (fun g => w.heap.size ≤ g) w1 v1 (wList q at_ 0) ∧ w.grownBy w1 none) := Lib.hid ⟨hs1.more fun g _ h => Nat.le_trans HS.out h, HR.out.2.trans hg1⟩
      clear hs1 hg1
      go_wp2
      go_ret2
      exact ⟨_, rfl, HF.out.1, HF.out.2⟩
    | succ m =>
      have hjn : (j : Int) < (at_.length : Int) := by omega
      have hjN : j < at_.length := by omega
      obtain ⟨hacc, hg⟩ := HX.out
      obtain ⟨g, o, c', e, _, _, hcu, _⟩ := (H.out.kept hg).atI hjN
      injection e with e1 e2 e3
      subst e1 e3
      have hi := HM.out _ (List.getElem_mem hjN)
      have HSN : Hid (at_.take (j + 1) = at_.take j ++ [at_[j]]) := Lib.hid (List.take_succ_eq_append_getElem hjN)
      have HU : Hid (U64 at_[j]) := Lib.hid ⟨by omega, by omega⟩
      have HAC := Lib.hid hacc
      have HG := Lib.hid hg
      have HLB : Hid (((at_.take j).length + 1) * 8 ≤ 140737488355328) := Lib.hid (by have := HB.out; simp; omega)
      clear hacc hg HX
      obtain ⟨hi1, hi2⟩ := hi
      generalize at_[j] = y at *
      have hcv : IntKind.u64.wrap y = y := IntWalk.u64_in _ (by omega)
      generalize at_.length = n at *
      go_wp2_with (at_builtin; refine wpList_pushG rfl (.tmp 15) (.tmp 18) rfl (E := encU) el_u64 HG.out HAC.out (fun _ h => h) ⟨rfl, HU.out⟩ HLB.out rfl rfl ?_)
      intro v2 w2 hacc2 hg2 hgo
      have HFIN : Hid (Acc encU w.heap.size 22 (fun g => w.heap.size ≤ g) w2 v2 (at_.take (j + 1)) ∧ w.grownBy w2 none) := Lib.hid ⟨by rw [HSN.out]; simpa using hacc2, hg2⟩
      clear hacc2 hg2 hgo
      go_wp2_with fail
      go_roundg m
      case measure => omega
      case rel => exact ⟨j + 1, by omega, by go_num, HFIN⟩
/-- Coms' closures. -/
theorem coms2_any (p : Par) (gp : Nat) (x k : Int) (w : World) (hb : Bk w gp 24 p.cells) (hx : U64 x) (hk : U64 k) :
    Calls Try.prog 37 #[.int .u64 x, .int .u64 k, .pointer (some ⟨gp, 0, none⟩)] w fun e w' => e = .returned (.int .u64 (powI x k p.P)) ∧ w.grownBy w' none := by
  have HPW := Lib.hid (power_any p x k w hx hk)
  have hp := hb.prule
  clear hb hx hk
  go_enter Try.func37, Try.ntmps37
  go_wp2_with fail
  refine HPW.out.mono ?_
  rintro e w1 ⟨rfl, hg⟩
  have HG := Lib.hid hg
  clear hg hp
  go_wp2
  go_ret
  exact ⟨rfl, HG.out⟩
theorem coms3_any (p : Par) (gp : Nat) (a b : Int) (w : World) (hb : Bk w gp 24 p.cells) (ha : U64 a) (hbb : U64 b) :
    Calls Try.prog 39 #[.int .u64 a, .int .u64 b, .pointer (some ⟨gp, 0, none⟩)] w fun e w' => e = .returned (.int .u64 (timesI p.P [a, b])) ∧ w.grownBy w' none := by
  have HTW := Lib.hid (times_two p a b w ha hbb)
  have hp := hb.prule
  clear hb ha hbb
  go_enter Try.func39, Try.ntmps39
  go_wp2_with fail
  refine HTW.out.mono ?_
  rintro e w1 ⟨rfl, hg⟩
  have HG := Lib.hid hg
  clear hg hp
  go_wp2
  go_ret
  exact ⟨rfl, HG.out⟩
/-- What numbers come to. -/
def comeU (P : Int) : List Int → List Int → Int → Int
  | x :: l, k :: ks, a => comeU P l ks (timesI P [a, powI x k P])
  | _, _, a => a
theorem comeU_snoc (P : Int) : ∀ (l ks : List Int) (a : Int) (j : Nat) (h : j < l.length) (h' : j < ks.length), comeU P (l.take (j + 1)) (ks.take (j + 1)) a = timesI P [comeU P (l.take j) (ks.take j) a, powI l[j] ks[j] P]
  | x :: l, k :: ks, a, 0, _, _ => by simp [comeU]
  | x :: l, k :: ks, a, j + 1, h, h' => by
    simp only [List.take_succ_cons, comeU, List.getElem_cons_succ]
    exact comeU_snoc P l ks _ j (by simpa using h) (by simpa using h')
end Go.Proofs.Ytlhjbllfcbojmaa

namespace Go.Proofs.Ytlhjbllfcbojmaa
open Go Go.RowKit Go.Shelf

theorem comeU_U64 (P : Int) (hU : ∀ l, U64 (timesI P l)) : ∀ (l ks : List Int) (a : Int), U64 a → U64 (comeU P l ks a)
  | [], _, _, h => h
  | _ :: _, [], _, h => h
  | _ :: l, _ :: ks, _, _ => comeU_U64 P hU l ks _ (hU _)
theorem comeU_take (P : Int) : ∀ (l ks : List Int) (a : Int), comeU P l (ks.take l.length) a = comeU P l ks a
  | [], _, _ => by simp [comeU]
  | _ :: _, [], _ => by simp [comeU]
  | x :: l, k :: ks, a => by simp only [List.length_cons, List.take_succ_cons, comeU]; exact comeU_take P l ks _
set_option maxRecDepth 100000 in
set_option maxHeartbeats 400000 in
theorem comeU_any (p : Par) (gp : Nat) (vl vk : Value) (l ks : List Int) (a : Int) (X Y : Nat → Prop) (w : World) (hb : Bk w gp 24 p.cells) (hl : Sl encU X w vl l) (hk : Sl encU Y w vk ks) (hlen : l.length ≤ ks.length) (ha : U64 a) :
    Calls Try.prog 41 #[vl, vk, .int .u64 a, .func (.func 37) #[] #[.pointer (some ⟨gp, 0, none⟩)], .func (.func 39) #[] #[.pointer (some ⟨gp, 0, none⟩)]] w fun e w' => e = .returned (.int .u64 (comeU p.P l ks a)) ∧ w.grownBy w' none := by
  have HB := Lib.hid hb
  have HL := Lib.hid hl
  have HK := Lib.hid hk
  have HLN := Lib.hid hlen
  have HU0 := Lib.hid ha
  obtain ⟨A, c, rfl, hc1, hc2⟩ := hl.form
  obtain ⟨A2, c2, rfl, hc3, hc4⟩ := hk.form
  clear hb hl hk hlen ha
  go_enter Try.func41, Try.ntmps41
  go_wp2_with fail
  go_loopg [2, 15] l.length (fun g s2 s15 wx => ∃ (j : Nat) (b : Int), j + g = l.length ∧ s15 = .int .i64 j ∧ s2 = .int .u64 b ∧ Hid (w.grownBy wx none ∧ U64 b ∧ b = comeU p.P (l.take j) (ks.take j) a))
  case atStart => exact ⟨0, a, by omega, rfl, rfl, Lib.hid ⟨World.grownBy.refl _ none, HU0.out, by simp [comeU]⟩⟩
  case round =>
    obtain ⟨j, b, hj, rfl, rfl, HX⟩ := hrel
    cases gk with
    | zero =>
      obtain rfl : j = l.length := by omega
      have HE : Hid (b = comeU p.P l ks a) := Lib.hid (by rw [HX.out.2.2, List.take_length, comeU_take])
      have HG := Lib.hid HX.out.1
      clear HX
      go_wp2
      go_ret
      exact ⟨ret_u64 HE.out, HG.out⟩
    | succ m =>
      have hjn : (j : Int) < (l.length : Int) := by omega
      have hjN : j < l.length := by omega
      have hjK : j < ks.length := Nat.lt_of_lt_of_le hjN HLN.out
      have hjk : (j : Int) < (ks.length : Int) := by omega
      obtain ⟨g, o, c', e, _, _, hcu, hux⟩ := (HL.out.kept HX.out.1).atU hjN
      injection e with e1 e2 e3
      subst e1 e3
      obtain ⟨g2, o2, c2', e, _, _, hcu2, huk⟩ := (HK.out.kept HX.out.1).atU hjK
      injection e with e1 e2 e3
      subst e1 e3
      have HSN : Hid (timesI p.P [b, powI l[j] ks[j] p.P] = comeU p.P (l.take (j + 1)) (ks.take (j + 1)) a) := Lib.hid (by rw [comeU_snoc _ _ _ _ _ hjN hjK, ← HX.out.2.2])
      have H2 := Lib.hid (coms2_any p gp l[j] ks[j] wr (HB.out.grown HX.out.1 (by simp)) hux huk)
      have HPU := Lib.hid (powI_U64' l[j] ks[j] p.P)
      have HG := Lib.hid HX.out.1
      have HBU := Lib.hid HX.out.2.1
      clear HX hux huk
      generalize l[j] = x at *
      generalize ks[j] = k at *
      generalize l.length = n at *
      generalize ks.length = n2 at *
      go_wp2_with fail
      refine H2.out.mono ?_
      rintro e4 w1 ⟨rfl, hg1⟩
      have HG1 := Lib.hid (HG.out.trans hg1)
      have H3 := Lib.hid (coms3_any p gp b _ w1 (HB.out.grown HG1.out (by simp)) HBU.out HPU.out)
      clear hg1
      go_wp2_with fail
      refine H3.out.mono ?_
      rintro e5 w2 ⟨rfl, hg2⟩
      have HFIN : Hid (w.grownBy w2 none ∧ U64 (timesI p.P [b, powI x k p.P]) ∧ timesI p.P [b, powI x k p.P] = comeU p.P (l.take (j + 1)) (ks.take (j + 1)) a) := Lib.hid ⟨HG1.out.trans hg2, timesI_U64 p.P _, HSN.out⟩
      clear hg2
      go_wp2_with fail
      go_roundg m
      case measure => omega
      case rel => exact ⟨j + 1, _, by omega, by go_num, rfl, HFIN⟩
end Go.Proofs.Ytlhjbllfcbojmaa

namespace Go.Proofs.Ytlhjbllfcbojmaa
open Go Go.RowKit

/-- No index. -/
def memBad (i : Int) : Bool := decide (i < 1) || decide (7 < i)
theorem memOne_any (i : Int) (w : World) :
    Calls Try.prog 51 #[.int .i64 i] w fun e w' => e = .returned (.bool (memBad i)) ∧ w.grownBy w' none := by
  by_cases h1 : i < 1
  · have hr : memBad i = true := by simp [memBad, h1]
    rw [hr]
    clear hr
    go_enter Try.func51, Try.ntmps51
    go_wp2
    go_ret
    exact ⟨by simp, World.grownBy.refl _ none⟩
  · by_cases h2 : 7 < i
    · have hr : memBad i = true := by simp [memBad, h2]
      rw [hr]
      clear hr
      go_enter Try.func51, Try.ntmps51
      go_wp2
      go_ret
      exact ⟨by simp [*], World.grownBy.refl _ none⟩
    · have hr : memBad i = false := by simp [memBad, h1, h2]
      rw [hr]
      clear hr
      go_enter Try.func51, Try.ntmps51
      go_wp2
      go_ret
      exact ⟨by simp [*], World.grownBy.refl _ none⟩
set_option maxHeartbeats 400000 in
theorem indexMem  (v : Value) (l : List (Int)) (X : Nat → Prop) (w : World)  (h : Sl encI X w v l) :
    Calls Try.prog 62 #[v, .func (.func 51) #[] #[]] w (FoundB (l.any fun x => memBad x) w) := by
  have H := Lib.hid h
  have hl := h.bound
  obtain ⟨A, c, rfl, _, _⟩ := h.form
  clear h 
  go_enter Try.func62, Try.ntmps62
  go_wp2_with fail
  go_loopg [8] l.length (fun n s8 wx => ∃ j : Nat, j + n = l.length ∧ s8 = .int .i64 j ∧ Hid (w.grownBy wx none ∧ ∀ i (h : i < l.length), i < j → memBad l[i] = false))
  case atStart => exact ⟨0, by omega, rfl, Lib.hid ⟨World.grownBy.refl w none, fun i hi h => absurd h (by omega)⟩⟩
  case round =>
    obtain ⟨j, hj, rfl, HX⟩ := hrel
    cases gk with
    | zero =>
      obtain rfl : j = l.length := by omega
      have HE : Hid (FoundB (l.any fun x => memBad x) w (.returned (.int .i64 (-1))) wr) := Lib.hid ⟨-1, rfl, by
        have : (l.any fun x => memBad x) = false := by
          rw [List.any_eq_false]
          intro b hb
          obtain ⟨i, hi, rfl⟩ := List.getElem_of_mem hb
          simp [HX.out.2 i hi hi]
        rw [this]
        rfl, ⟨by decide, by decide⟩, HX.out.1⟩
      clear HX
      go_wp2
      go_ret
      exact HE.out
    | succ k =>
      have hjn : (j : Int) < (l.length : Int) := by omega
      have hjN : j < l.length := by omega
      obtain ⟨g, o, c', e, _, _, hcu, hu⟩ := (H.out.kept HX.out.1).atI hjN
      injection e with e1 e2 e3
      subst e1 e3
      have HC := Lib.hid (memOne_any l[j] wr)
      have HV : Hid (memBad l[j] = false ∨ memBad l[j] = true) := Lib.hid (by cases memBad l[j] <;> simp)
      have HR : Hid (memBad l[j] = false → ∀ i (h : i < l.length), i < j + 1 → memBad l[i] = false) := Lib.hid (fun h i hi hl => by
        rcases Nat.lt_or_ge i j with h1 | h1
        · exact HX.out.2 i hi h1
        · obtain rfl : i = j := by omega
          exact h)
      have HN : Hid (memBad l[j] = true → (l.any fun x => memBad x) = true) := Lib.hid (fun h => List.any_eq_true.2 ⟨_, List.getElem_mem hjN, by simp [h]⟩)
      have HG := Lib.hid HX.out.1
      clear HX hu e2
      generalize memBad l[j] = b at *
      generalize l[j] = x at *
      rcases HV.out with rfl | rfl
      · go_wp2_with fail
        refine HC.out.mono ?_
        rintro e w1 ⟨rfl, hg⟩
        have HG1 := Lib.hid (HG.out.trans hg)
        clear hg
        go_wp2
        go_roundg k
        case measure => omega
        case rel => exact ⟨j + 1, by omega, by go_num, Lib.hid ⟨HG1.out, HR.out (by simp)⟩⟩
      · have HE : Hid (∀ w1, w.grownBy w1 none → FoundB (l.any fun x => memBad x) w (.returned (.int .i64 j)) w1) := Lib.hid (fun w1 hg => ⟨j, rfl, by rw [HN.out rfl]; simp, ⟨by omega, by omega⟩, hg⟩)
        go_wp2_with fail
        refine HC.out.mono ?_
        rintro e w1 ⟨rfl, hg⟩
        have HG1 := Lib.hid (HG.out.trans hg)
        clear hg
        go_wp2
        go_ret
        exact HE.out _ HG1.out
set_option maxHeartbeats 400000 in
theorem containsMem  (v : Value) (l : List (Int)) (X : Nat → Prop) (w : World)  (h : Sl encI X w v l) :
    Calls Try.prog 50 #[v, .func (.func 51) #[] #[]] w fun e w' => e = .returned (.bool (l.any fun x => memBad x)) ∧ w.grownBy w' none := by
  have HC := Lib.hid (indexMem  v l X w  h)
  obtain ⟨A, c, rfl, _, _⟩ := h.form
  clear h 
  go_enter Try.func50, Try.ntmps50
  go_wp2_with fail
  refine HC.out.mono ?_
  rintro e w1 ⟨r, rfl, hr, _, hg⟩
  have HG := Lib.hid hg
  have HR := Lib.hid hr
  clear hg hr
  go_wp2
  go_ret
  exact ⟨ret_bool HR.out, HG.out⟩
/-- All are indices, and there are some. -/
def membersB (at_ : List Int) : Bool := decide (0 < at_.length) && !at_.any fun i => memBad i
theorem membersB_yes {at_ : List Int} (h : membersB at_ = true) : 0 < at_.length ∧ ∀ i ∈ at_, 1 ≤ i ∧ i ≤ 7 := by
  simp [membersB, memBad] at h
  exact ⟨h.1, fun i hi => h.2 i hi⟩
set_option maxHeartbeats 400000 in
theorem members_any (v : Value) (at_ : List Int) (X : Nat → Prop) (w : World) (h : Sl encI X w v at_) :
    Calls Try.prog 26 #[v] w fun e w' => e = .returned (.bool (membersB at_)) ∧ w.grownBy w' none := by
  have HC := Lib.hid (containsMem v at_ X w h)
  obtain ⟨A, c, rfl, _, _⟩ := h.form
  clear h
  by_cases h0 : 0 < at_.length
  · have hr : membersB at_ = !at_.any fun i => memBad i := by simp [membersB, h0]
    rw [hr]
    clear hr
    have hI : (0 : Int) < (at_.length : Int) := by omega
    generalize (at_.any fun i => memBad i) = b at *
    generalize at_.length = n at *
    go_enter Try.func26, Try.ntmps26
    go_wp2_with fail
    refine HC.out.mono ?_
    rintro e w1 ⟨rfl, hg⟩
    have HG := Lib.hid hg
    clear hg
    go_wp2
    go_ret
    exact ⟨by simp, HG.out⟩
  · have hr : membersB at_ = false := by simp [membersB, h0]
    rw [hr]
    clear hr
    have hI : ¬ (0 : Int) < (at_.length : Int) := by omega
    generalize at_.length = n at *
    go_enter Try.func26, Try.ntmps26
    go_wp2
    go_ret
    exact ⟨by simp [*], World.grownBy.refl _ none⟩
/-- A list of a column that is too short or too long. -/
def shortB (p : Par) (x : List Int) : Bool := !((x.length : Int) == wrap64 (p.T + 1))
theorem short_any (p : Par) (B : Nat) (v : Value) (x : List Int) (X : Nat → Prop) (w : World) (hb : Bk w B 24 p.cells) (h : Sl encU X w v x) :
    Calls Try.prog 35 #[v, .pointer (some ⟨B, 0, none⟩)] w fun e w' => e = .returned (.bool (shortB p x)) ∧ w.grownBy w' none := by
  obtain ⟨A, c, rfl, _, _⟩ := h.form
  have hc := hb.prule
  obtain ⟨r, hr⟩ : ∃ r, r = shortB p x := ⟨_, rfl⟩
  have HR := Lib.hid hr
  rw [← hr]
  clear h hb hr
  go_enter Try.func35, Try.ntmps35
  go_wp2
  go_ret
  exact ⟨ret_bool (by rw [HR.out]; rfl), World.grownBy.refl _ none⟩
set_option maxHeartbeats 400000 in
theorem indexShort (p : Par) (B : Nat) (v : Value) (l : List (List Int)) (X : Nat → Prop) (w : World) (hb : Bk w B 24 p.cells) (h : Sl (encS encU) X w v l) :
    Calls Try.prog 57 #[v, .func (.func 35) #[] #[.pointer (some ⟨B, 0, none⟩)]] w (FoundB (l.any fun x => shortB p x) w) := by
  have Hhb := Lib.hid hb
  have H := Lib.hid h
  have hl := h.bound
  obtain ⟨A, c, rfl, _, _⟩ := h.form
  clear h hb
  go_enter Try.func57, Try.ntmps57
  go_wp2_with fail
  go_loopg [8] l.length (fun n s8 wx => ∃ j : Nat, j + n = l.length ∧ s8 = .int .i64 j ∧ Hid (w.grownBy wx none ∧ ∀ i (h : i < l.length), i < j → shortB p l[i] = false))
  case atStart => exact ⟨0, by omega, rfl, Lib.hid ⟨World.grownBy.refl w none, fun i hi h => absurd h (by omega)⟩⟩
  case round =>
    obtain ⟨j, hj, rfl, HX⟩ := hrel
    cases gk with
    | zero =>
      obtain rfl : j = l.length := by omega
      have HE : Hid (FoundB (l.any fun x => shortB p x) w (.returned (.int .i64 (-1))) wr) := Lib.hid ⟨-1, rfl, by
        have : (l.any fun x => shortB p x) = false := by
          rw [List.any_eq_false]
          intro b hb
          obtain ⟨i, hi, rfl⟩ := List.getElem_of_mem hb
          simp [HX.out.2 i hi hi]
        rw [this]
        rfl, ⟨by decide, by decide⟩, HX.out.1⟩
      clear HX
      go_wp2
      go_ret
      exact HE.out
    | succ k =>
      have hjn : (j : Int) < (l.length : Int) := by omega
      have hjN : j < l.length := by omega
      obtain ⟨g, o, c', u, e, _, _, hcu, hu⟩ := (H.out.kept HX.out.1).atS hjN
      injection e with e1 e2 e3
      subst e1 e3
      have HC := Lib.hid (short_any p B u l[j] X wr (Hhb.out.grown HX.out.1 (by simp)) hu)
      have HV : Hid (shortB p l[j] = false ∨ shortB p l[j] = true) := Lib.hid (by cases shortB p l[j] <;> simp)
      have HR : Hid (shortB p l[j] = false → ∀ i (h : i < l.length), i < j + 1 → shortB p l[i] = false) := Lib.hid (fun h i hi hl => by
        rcases Nat.lt_or_ge i j with h1 | h1
        · exact HX.out.2 i hi h1
        · obtain rfl : i = j := by omega
          exact h)
      have HN : Hid (shortB p l[j] = true → (l.any fun x => shortB p x) = true) := Lib.hid (fun h => List.any_eq_true.2 ⟨_, List.getElem_mem hjN, by simp [h]⟩)
      obtain ⟨A7, c7, e7, _, _⟩ := hu.form
      generalize l[j].length = n7 at e7
      subst e7
      have HG := Lib.hid HX.out.1
      clear HX hu e2
      generalize shortB p l[j] = b at *
      generalize l[j] = x at *
      rcases HV.out with rfl | rfl
      · go_wp2_with fail
        refine HC.out.mono ?_
        rintro e w1 ⟨rfl, hg⟩
        have HG1 := Lib.hid (HG.out.trans hg)
        clear hg
        go_wp2
        go_roundg k
        case measure => omega
        case rel => exact ⟨j + 1, by omega, by go_num, Lib.hid ⟨HG1.out, HR.out (by simp)⟩⟩
      · have HE : Hid (∀ w1, w.grownBy w1 none → FoundB (l.any fun x => shortB p x) w (.returned (.int .i64 j)) w1) := Lib.hid (fun w1 hg => ⟨j, rfl, by rw [HN.out rfl]; simp, ⟨by omega, by omega⟩, hg⟩)
        go_wp2_with fail
        refine HC.out.mono ?_
        rintro e w1 ⟨rfl, hg⟩
        have HG1 := Lib.hid (HG.out.trans hg)
        clear hg
        go_wp2
        go_ret
        exact HE.out _ HG1.out
set_option maxHeartbeats 400000 in
theorem containsShort (p : Par) (B : Nat) (v : Value) (l : List (List Int)) (X : Nat → Prop) (w : World) (hb : Bk w B 24 p.cells) (h : Sl (encS encU) X w v l) :
    Calls Try.prog 36 #[v, .func (.func 35) #[] #[.pointer (some ⟨B, 0, none⟩)]] w fun e w' => e = .returned (.bool (l.any fun x => shortB p x)) ∧ w.grownBy w' none := by
  have HC := Lib.hid (indexShort p B v l X w hb h)
  obtain ⟨A, c, rfl, _, _⟩ := h.form
  clear h hb
  go_enter Try.func36, Try.ntmps36
  go_wp2_with fail
  refine HC.out.mono ?_
  rintro e w1 ⟨r, rfl, hr, _, hg⟩
  have HG := Lib.hid hg
  have HR := Lib.hid hr
  clear hg hr
  go_wp2
  go_ret
  exact ⟨ret_bool HR.out, HG.out⟩
/-- A member's list that is too short or too long. -/
def oddB (p : Par) (x : List (Int × Int)) : Bool := !((x.length : Int) == secretsI p)
theorem odd_any (p : Par) (B : Nat) (v : Value) (x : List (Int × Int)) (X : Nat → Prop) (w : World) (hb : Bk w B 24 p.cells) (h : Sl encP X w v x) :
    Calls Try.prog 23 #[v, .pointer (some ⟨B, 0, none⟩)] w fun e w' => e = .returned (.bool (oddB p x)) ∧ w.grownBy w' none := by
  obtain ⟨A, c, rfl, _, _⟩ := h.form
  have hc := hb.prule
  have HS := Lib.hid (ssecrets_any p w)
  obtain ⟨r, hr⟩ : ∃ r, r = oddB p x := ⟨_, rfl⟩
  have HR := Lib.hid hr
  rw [← hr]
  clear h hb hr
  go_enter Try.func23, Try.ntmps23
  go_wp2_with fail
  refine HS.out.mono ?_
  rintro e w1 ⟨rfl, hg⟩
  have HG := Lib.hid hg
  clear hg hc
  go_wp2
  go_ret
  exact ⟨ret_bool (by rw [HR.out]; rfl), HG.out⟩
set_option maxHeartbeats 400000 in
theorem indexOdd (p : Par) (B : Nat) (v : Value) (l : List (List (Int × Int))) (X : Nat → Prop) (w : World) (hb : Bk w B 24 p.cells) (h : Sl (encS encP) X w v l) :
    Calls Try.prog 52 #[v, .func (.func 23) #[] #[.pointer (some ⟨B, 0, none⟩)]] w (FoundB (l.any fun x => oddB p x) w) := by
  have Hhb := Lib.hid hb
  have H := Lib.hid h
  have hl := h.bound
  obtain ⟨A, c, rfl, _, _⟩ := h.form
  clear h hb
  go_enter Try.func52, Try.ntmps52
  go_wp2_with fail
  go_loopg [8] l.length (fun n s8 wx => ∃ j : Nat, j + n = l.length ∧ s8 = .int .i64 j ∧ Hid (w.grownBy wx none ∧ ∀ i (h : i < l.length), i < j → oddB p l[i] = false))
  case atStart => exact ⟨0, by omega, rfl, Lib.hid ⟨World.grownBy.refl w none, fun i hi h => absurd h (by omega)⟩⟩
  case round =>
    obtain ⟨j, hj, rfl, HX⟩ := hrel
    cases gk with
    | zero =>
      obtain rfl : j = l.length := by omega
      have HE : Hid (FoundB (l.any fun x => oddB p x) w (.returned (.int .i64 (-1))) wr) := Lib.hid ⟨-1, rfl, by
        have : (l.any fun x => oddB p x) = false := by
          rw [List.any_eq_false]
          intro b hb
          obtain ⟨i, hi, rfl⟩ := List.getElem_of_mem hb
          simp [HX.out.2 i hi hi]
        rw [this]
        rfl, ⟨by decide, by decide⟩, HX.out.1⟩
      clear HX
      go_wp2
      go_ret
      exact HE.out
    | succ k =>
      have hjn : (j : Int) < (l.length : Int) := by omega
      have hjN : j < l.length := by omega
      obtain ⟨g, o, c', u, e, _, _, hcu, hu⟩ := (H.out.kept HX.out.1).atS hjN
      injection e with e1 e2 e3
      subst e1 e3
      have HC := Lib.hid (odd_any p B u l[j] X wr (Hhb.out.grown HX.out.1 (by simp)) hu)
      have HV : Hid (oddB p l[j] = false ∨ oddB p l[j] = true) := Lib.hid (by cases oddB p l[j] <;> simp)
      have HR : Hid (oddB p l[j] = false → ∀ i (h : i < l.length), i < j + 1 → oddB p l[i] = false) := Lib.hid (fun h i hi hl => by
        rcases Nat.lt_or_ge i j with h1 | h1
        · exact HX.out.2 i hi h1
        · obtain rfl : i = j := by omega
          exact h)
      have HN : Hid (oddB p l[j] = true → (l.any fun x => oddB p x) = true) := Lib.hid (fun h => List.any_eq_true.2 ⟨_, List.getElem_mem hjN, by simp [h]⟩)
      obtain ⟨A7, c7, e7, _, _⟩ := hu.form
      generalize l[j].length = n7 at e7
      subst e7
      have HG := Lib.hid HX.out.1
      clear HX hu e2
      generalize oddB p l[j] = b at *
      generalize l[j] = x at *
      rcases HV.out with rfl | rfl
      · go_wp2_with fail
        refine HC.out.mono ?_
        rintro e w1 ⟨rfl, hg⟩
        have HG1 := Lib.hid (HG.out.trans hg)
        clear hg
        go_wp2
        go_roundg k
        case measure => omega
        case rel => exact ⟨j + 1, by omega, by go_num, Lib.hid ⟨HG1.out, HR.out (by simp)⟩⟩
      · have HE : Hid (∀ w1, w.grownBy w1 none → FoundB (l.any fun x => oddB p x) w (.returned (.int .i64 j)) w1) := Lib.hid (fun w1 hg => ⟨j, rfl, by rw [HN.out rfl]; simp, ⟨by omega, by omega⟩, hg⟩)
        go_wp2_with fail
        refine HC.out.mono ?_
        rintro e w1 ⟨rfl, hg⟩
        have HG1 := Lib.hid (HG.out.trans hg)
        clear hg
        go_wp2
        go_ret
        exact HE.out _ HG1.out
set_option maxHeartbeats 400000 in
theorem containsOdd (p : Par) (B : Nat) (v : Value) (l : List (List (Int × Int))) (X : Nat → Prop) (w : World) (hb : Bk w B 24 p.cells) (h : Sl (encS encP) X w v l) :
    Calls Try.prog 27 #[v, .func (.func 23) #[] #[.pointer (some ⟨B, 0, none⟩)]] w fun e w' => e = .returned (.bool (l.any fun x => oddB p x)) ∧ w.grownBy w' none := by
  have HC := Lib.hid (indexOdd p B v l X w hb h)
  obtain ⟨A, c, rfl, _, _⟩ := h.form
  clear h hb
  go_enter Try.func27, Try.ntmps27
  go_wp2_with fail
  refine HC.out.mono ?_
  rintro e w1 ⟨r, rfl, hr, _, hg⟩
  have HG := Lib.hid hg
  have HR := Lib.hid hr
  clear hg hr
  go_wp2
  go_ret
  exact ⟨ret_bool HR.out, HG.out⟩
end Go.Proofs.Ytlhjbllfcbojmaa

namespace Go.Proofs.Ytlhjbllfcbojmaa
open Go.RowKit

end Go.Proofs.Ytlhjbllfcbojmaa

namespace Go.Proofs.Ytlhjbllfcbojmaa
open Go Go.RowKit

set_option maxRecDepth 100000 in
set_option maxHeartbeats 400000 in
theorem sum2_any (p : Par) (gp : Nat) (x : Int × Int) (k : Int) (w : World) (hb : Bk w gp 24 p.cells) (hu1 : U64 x.1) (hu2 : U64 x.2) (hu3 : U64 k) (hu4 : True) :
    Calls Try.prog 29 #[.agg #[.int .u64 x.1, .int .u64 x.2], .int .u64 k, .pointer (some ⟨gp, 0, none⟩)] w fun e w' => e = .returned (.agg #[.int .u64 (mulI x.1 k p.Q), .int .u64 (mulI x.2 k p.Q)]) ∧ w.grownBy w' none := by
  have HP : Hid (Bk ((w.alloc (.cells #[.int .u64 x.1, .int .u64 x.2] 47)).alloc (.cells #[.int .u64 0, .int .u64 0] 47)) gp 24 p.cells) := Lib.hid ((hb.alloc _).alloc _)
  have HX0 : Hid (Bk ((w.alloc (.cells #[.int .u64 x.1, .int .u64 x.2] 47)).alloc (.cells #[.int .u64 0, .int .u64 0] 47)) (w.heap.size) 47 #[.int .u64 x.1, .int .u64 x.2]) := Lib.hid (by have := (Bk.new w 47 #[.int .u64 x.1, .int .u64 x.2]).alloc (.cells #[.int .u64 0, .int .u64 0] 47); simpa using this)
  have HR : Hid (Bk ((w.alloc (.cells #[.int .u64 x.1, .int .u64 x.2] 47)).alloc (.cells #[.int .u64 0, .int .u64 0] 47)) (w.heap.size + 1) 47 #[.int .u64 0, .int .u64 0]) := Lib.hid (by have := Bk.new (w.alloc (.cells #[.int .u64 x.1, .int .u64 x.2] 47)) 47 #[.int .u64 0, .int .u64 0]; simpa using this)
  have HG : Hid (w.grownBy ((w.alloc (.cells #[.int .u64 x.1, .int .u64 x.2] 47)).alloc (.cells #[.int .u64 0, .int .u64 0] 47)) none ∧ w.heap.size + 1 < ((w.alloc (.cells #[.int .u64 x.1, .int .u64 x.2] 47)).alloc (.cells #[.int .u64 0, .int .u64 0] 47)).heap.size) := Lib.hid ⟨(World.grownBy_alloc w _ none).trans (World.grownBy_alloc _ _ none), by simp⟩
  have HU := Lib.hid (And.intro hu1 (And.intro hu2 (And.intro hu3 hu4)))
  clear hb hu1 hu2 hu3 hu4
  go_enter Try.func29, Try.ntmps29
  go_wp2_with fail
  obtain ⟨W, hW⟩ : ∃ W, W = ((w.alloc (.cells #[.int .u64 x.1, .int .u64 x.2] 47)).alloc (.cells #[.int .u64 0, .int .u64 0] 47)) := ⟨_, rfl⟩
  rw [← hW] at HP HR HG HX0 ⊢
  clear hW
  refine wp_region_mono 13 (by kernel_rfl) (by kernel_rfl) ?_
  refine MonoR.step (Pv.eq (.pointer (some ⟨w.heap.size, 0, none⟩))) [] (by kernel_rfl) (fun w' hw' => ?_) ?_
  · refine ask_do rfl fun K hK => ?_
    go_simp
    exact hK _ _ rfl rfl (World.grownBy.refl _ none)
  refine MonoR.step (Pv.eq (.int .u64 x.1)) [(0, 6)] (by kernel_rfl) (fun w' hw' => ?_) ?_
  · rintro _ rfl
    refine ask_do rfl fun K hK => ?_
    have hq := (HP.out.grown ((grown_drewN' W 1).trans hw') (by simp)).prule
    have hx0 := (HX0.out.grown ((grown_drewN' W 1).trans hw') (by simp)).cell
    have hx0a := hx0 0; have hx0b := hx0 1; simp at hx0a hx0b
    go_simp
    exact hK _ _ rfl rfl (World.grownBy.refl _ none)
  refine MonoR.step (Pv.eq (.int .u64 k)) [] (by kernel_rfl) (fun w' hw' => ?_) ?_
  · refine ask_do rfl fun K hK => ?_
    go_simp
    exact hK _ _ rfl rfl (World.grownBy.refl _ none)
  refine MonoR.step (Pv.eq (.pointer (some ⟨gp, 1, none⟩))) [] (by kernel_rfl) (fun w' hw' => ?_) ?_
  · refine ask_do rfl fun K hK => ?_
    go_simp
    exact hK _ _ rfl rfl (World.grownBy.refl _ none)
  refine MonoR.step (Pv.eq (.int .u64 p.Q)) [(3, 9)] (by kernel_rfl) (fun w' hw' => ?_) ?_
  · rintro _ rfl
    refine ask_do rfl fun K hK => ?_
    have hq := (HP.out.grown ((grown_drewN' W 1).trans hw') (by simp)).prule
    have hx0 := (HX0.out.grown ((grown_drewN' W 1).trans hw') (by simp)).cell
    have hx0a := hx0 0; have hx0b := hx0 1; simp at hx0a hx0b
    go_simp
    exact hK _ _ rfl rfl (World.grownBy.refl _ none)
  refine MonoR.step (Pv.eq (.int .u64 (mulI x.1 k p.Q))) [(1, 7), (2, 8), (4, 10)] (by kernel_rfl) (fun w' hw' => ?_) ?_
  · rintro _ rfl
    rintro _ rfl
    rintro _ rfl
    refine ask_do rfl fun K hK => ?_
    go_simp
    refine (mul_gr x.1 k p.Q w' HU.out.1 HU.out.2.2.1).mono ?_
    rintro e w3 ⟨rfl, hg⟩
    exact hK _ _ rfl rfl hg
  refine MonoR.step (Pv.eq (.pointer (some ⟨w.heap.size, 1, none⟩))) [] (by kernel_rfl) (fun w' hw' => ?_) ?_
  · refine ask_do rfl fun K hK => ?_
    go_simp
    exact hK _ _ rfl rfl (World.grownBy.refl _ none)
  refine MonoR.step (Pv.eq (.int .u64 x.2)) [(6, 12)] (by kernel_rfl) (fun w' hw' => ?_) ?_
  · rintro _ rfl
    refine ask_do rfl fun K hK => ?_
    have hq := (HP.out.grown ((grown_drewN' W 1).trans hw') (by simp)).prule
    have hx0 := (HX0.out.grown ((grown_drewN' W 1).trans hw') (by simp)).cell
    have hx0a := hx0 0; have hx0b := hx0 1; simp at hx0a hx0b
    go_simp
    exact hK _ _ rfl rfl (World.grownBy.refl _ none)
  refine MonoR.step (Pv.eq (.int .u64 k)) [] (by kernel_rfl) (fun w' hw' => ?_) ?_
  · refine ask_do rfl fun K hK => ?_
    go_simp
    exact hK _ _ rfl rfl (World.grownBy.refl _ none)
  refine MonoR.step (Pv.eq (.pointer (some ⟨gp, 1, none⟩))) [] (by kernel_rfl) (fun w' hw' => ?_) ?_
  · refine ask_do rfl fun K hK => ?_
    go_simp
    exact hK _ _ rfl rfl (World.grownBy.refl _ none)
  refine MonoR.step (Pv.eq (.int .u64 p.Q)) [(9, 15)] (by kernel_rfl) (fun w' hw' => ?_) ?_
  · rintro _ rfl
    refine ask_do rfl fun K hK => ?_
    have hq := (HP.out.grown ((grown_drewN' W 1).trans hw') (by simp)).prule
    have hx0 := (HX0.out.grown ((grown_drewN' W 1).trans hw') (by simp)).cell
    have hx0a := hx0 0; have hx0b := hx0 1; simp at hx0a hx0b
    go_simp
    exact hK _ _ rfl rfl (World.grownBy.refl _ none)
  refine MonoR.step (Pv.eq (.int .u64 (mulI x.2 k p.Q))) [(7, 13), (8, 14), (10, 16)] (by kernel_rfl) (fun w' hw' => ?_) ?_
  · rintro _ rfl
    rintro _ rfl
    rintro _ rfl
    refine ask_do rfl fun K hK => ?_
    go_simp
    refine (mul_gr x.2 k p.Q w' HU.out.2.1 HU.out.2.2.1).mono ?_
    rintro e w3 ⟨rfl, hg⟩
    exact hK _ _ rfl rfl hg
  refine MonoR.step (Pv.eq (.agg #[.int .u64 (mulI x.1 k p.Q), .int .u64 (mulI x.2 k p.Q)])) [(5, 11), (11, 17)] (by kernel_rfl) (fun w' hw' => ?_) ?_
  · rintro _ rfl
    rintro _ rfl
    refine ask_do rfl fun K hK => ?_
    go_simp
    exact hK _ _ rfl rfl (World.grownBy.refl _ none)
  intro w3 hw3
  intro y0 e0 y1 e1 y2 e2 y3 e3 y4 e4 y5 e5 y6 e6 y7 e7 y8 e8 y9 e9 y10 e10 y11 e11 y12 e12
  have e0 : y0 = .pointer (some ⟨w.heap.size, 0, none⟩) := e0
  subst e0
  have e1 : y1 = .int .u64 x.1 := e1
  subst e1
  have e2 : y2 = .int .u64 k := e2
  subst e2
  have e3 : y3 = .pointer (some ⟨gp, 1, none⟩) := e3
  subst e3
  have e4 : y4 = .int .u64 p.Q := e4
  subst e4
  have e5 : y5 = .int .u64 (mulI x.1 k p.Q) := e5
  subst e5
  have e6 : y6 = .pointer (some ⟨w.heap.size, 1, none⟩) := e6
  subst e6
  have e7 : y7 = .int .u64 x.2 := e7
  subst e7
  have e8 : y8 = .int .u64 k := e8
  subst e8
  have e9 : y9 = .pointer (some ⟨gp, 1, none⟩) := e9
  subst e9
  have e10 : y10 = .int .u64 p.Q := e10
  subst e10
  have e11 : y11 = .int .u64 (mulI x.2 k p.Q) := e11
  subst e11
  have e12 : y12 = .agg #[.int .u64 (mulI x.1 k p.Q), .int .u64 (mulI x.2 k p.Q)] := e12
  subst e12
  simp only [Act.put, List.setIfInBounds_toArray, List.set_cons_zero, List.set_cons_succ]
  have hr3 := HR.out.grown ((grown_drewN' W 1).trans hw3) (by simp)
  have hc0 := hr3.cell 0
  have hc1 := hr3.cell 1
  have hf0 := hr3.free 0
  have hf1 := hr3.free 1
  simp at hc0 hc1
  have hk5 := (hr3.set 0 (.int .u64 (mulI x.1 k p.Q))).set 1 (.int .u64 (mulI x.2 k p.Q))
  have hk0 := hk5.cell 0
  have hk1 := hk5.cell 1
  simp at hk0 hk1
  have HF : Hid (w.grownBy ((w3.setCell ⟨w.heap.size + 1, 0, none⟩ (.int .u64 (mulI x.1 k p.Q))).setCell ⟨w.heap.size + 1, 1, none⟩ (.int .u64 (mulI x.2 k p.Q))) none) := Lib.hid (grown_of_below (((below_grown (HG.out.1.trans ((grown_drewN' W 1).trans hw3))).setCell (p := ⟨w.heap.size + 1, 0, none⟩) (by simp <;> omega) _).setCell (p := ⟨w.heap.size + 1, 1, none⟩) (by simp <;> omega) _))
  clear hw3 hr3 hk5
  refine wpList_plain rfl fun K hK => ?_
  go_simp
  refine hK _ _ (wpList_nil ?_)
  go_wp2_with fail
  refine bodyPost_ret (v := .agg #[.int .u64 (mulI x.1 k p.Q), .int .u64 (mulI x.2 k p.Q)]) (by simp [results, Try.results29, go_sem, *]) rfl ⟨rfl, HF.out⟩
set_option maxRecDepth 100000 in
set_option maxHeartbeats 400000 in
theorem sum3_any (p : Par) (gp : Nat) (x y : Int × Int) (w : World) (hb : Bk w gp 24 p.cells) (hu1 : U64 x.1) (hu2 : U64 x.2) (hu3 : U64 y.1) (hu4 : U64 y.2) :
    Calls Try.prog 31 #[.agg #[.int .u64 x.1, .int .u64 x.2], .agg #[.int .u64 y.1, .int .u64 y.2], .pointer (some ⟨gp, 0, none⟩)] w fun e w' => e = .returned (.agg #[.int .u64 (addI x.1 y.1 p.Q), .int .u64 (addI x.2 y.2 p.Q)]) ∧ w.grownBy w' none := by
  have HP : Hid (Bk (((w.alloc (.cells #[.int .u64 x.1, .int .u64 x.2] 47)).alloc (.cells #[.int .u64 y.1, .int .u64 y.2] 47)).alloc (.cells #[.int .u64 0, .int .u64 0] 47)) gp 24 p.cells) := Lib.hid (((hb.alloc _).alloc _).alloc _)
  have HX0 : Hid (Bk (((w.alloc (.cells #[.int .u64 x.1, .int .u64 x.2] 47)).alloc (.cells #[.int .u64 y.1, .int .u64 y.2] 47)).alloc (.cells #[.int .u64 0, .int .u64 0] 47)) (w.heap.size) 47 #[.int .u64 x.1, .int .u64 x.2]) := Lib.hid (by have := (Bk.new w 47 #[.int .u64 x.1, .int .u64 x.2]).alloc (.cells #[.int .u64 y.1, .int .u64 y.2] 47) |>.alloc (.cells #[.int .u64 0, .int .u64 0] 47); simpa using this)
  have HX1 : Hid (Bk (((w.alloc (.cells #[.int .u64 x.1, .int .u64 x.2] 47)).alloc (.cells #[.int .u64 y.1, .int .u64 y.2] 47)).alloc (.cells #[.int .u64 0, .int .u64 0] 47)) (w.heap.size + 1) 47 #[.int .u64 y.1, .int .u64 y.2]) := Lib.hid (by have := (Bk.new (w.alloc (.cells #[.int .u64 x.1, .int .u64 x.2] 47)) 47 #[.int .u64 y.1, .int .u64 y.2]).alloc (.cells #[.int .u64 0, .int .u64 0] 47); simpa using this)
  have HR : Hid (Bk (((w.alloc (.cells #[.int .u64 x.1, .int .u64 x.2] 47)).alloc (.cells #[.int .u64 y.1, .int .u64 y.2] 47)).alloc (.cells #[.int .u64 0, .int .u64 0] 47)) (w.heap.size + 1 + 1) 47 #[.int .u64 0, .int .u64 0]) := Lib.hid (by have := Bk.new ((w.alloc (.cells #[.int .u64 x.1, .int .u64 x.2] 47)).alloc (.cells #[.int .u64 y.1, .int .u64 y.2] 47)) 47 #[.int .u64 0, .int .u64 0]; simpa using this)
  have HG : Hid (w.grownBy (((w.alloc (.cells #[.int .u64 x.1, .int .u64 x.2] 47)).alloc (.cells #[.int .u64 y.1, .int .u64 y.2] 47)).alloc (.cells #[.int .u64 0, .int .u64 0] 47)) none ∧ w.heap.size + 1 + 1 < (((w.alloc (.cells #[.int .u64 x.1, .int .u64 x.2] 47)).alloc (.cells #[.int .u64 y.1, .int .u64 y.2] 47)).alloc (.cells #[.int .u64 0, .int .u64 0] 47)).heap.size) := Lib.hid ⟨((World.grownBy_alloc w _ none).trans (World.grownBy_alloc _ _ none)).trans (World.grownBy_alloc _ _ none), by simp⟩
  have HU := Lib.hid (And.intro hu1 (And.intro hu2 (And.intro hu3 hu4)))
  clear hb hu1 hu2 hu3 hu4
  go_enter Try.func31, Try.ntmps31
  go_wp2_with fail
  obtain ⟨W, hW⟩ : ∃ W, W = (((w.alloc (.cells #[.int .u64 x.1, .int .u64 x.2] 47)).alloc (.cells #[.int .u64 y.1, .int .u64 y.2] 47)).alloc (.cells #[.int .u64 0, .int .u64 0] 47)) := ⟨_, rfl⟩
  rw [← hW] at HP HR HG HX0 HX1 ⊢
  clear hW
  refine wp_region_mono 15 (by kernel_rfl) (by kernel_rfl) ?_
  refine MonoR.step (Pv.eq (.pointer (some ⟨w.heap.size, 0, none⟩))) [] (by kernel_rfl) (fun w' hw' => ?_) ?_
  · refine ask_do rfl fun K hK => ?_
    go_simp
    exact hK _ _ rfl rfl (World.grownBy.refl _ none)
  refine MonoR.step (Pv.eq (.int .u64 x.1)) [(0, 6)] (by kernel_rfl) (fun w' hw' => ?_) ?_
  · rintro _ rfl
    refine ask_do rfl fun K hK => ?_
    have hq := (HP.out.grown ((grown_drewN' W 1).trans hw') (by simp)).prule
    have hx0 := (HX0.out.grown ((grown_drewN' W 1).trans hw') (by simp)).cell
    have hx1 := (HX1.out.grown ((grown_drewN' W 1).trans hw') (by simp)).cell
    have hx0a := hx0 0; have hx0b := hx0 1; simp at hx0a hx0b; have hx1a := hx1 0; have hx1b := hx1 1; simp at hx1a hx1b
    go_simp
    exact hK _ _ rfl rfl (World.grownBy.refl _ none)
  refine MonoR.step (Pv.eq (.pointer (some ⟨w.heap.size + 1, 0, none⟩))) [] (by kernel_rfl) (fun w' hw' => ?_) ?_
  · refine ask_do rfl fun K hK => ?_
    go_simp
    exact hK _ _ rfl rfl (World.grownBy.refl _ none)
  refine MonoR.step (Pv.eq (.int .u64 y.1)) [(2, 8)] (by kernel_rfl) (fun w' hw' => ?_) ?_
  · rintro _ rfl
    refine ask_do rfl fun K hK => ?_
    have hq := (HP.out.grown ((grown_drewN' W 1).trans hw') (by simp)).prule
    have hx0 := (HX0.out.grown ((grown_drewN' W 1).trans hw') (by simp)).cell
    have hx1 := (HX1.out.grown ((grown_drewN' W 1).trans hw') (by simp)).cell
    have hx0a := hx0 0; have hx0b := hx0 1; simp at hx0a hx0b; have hx1a := hx1 0; have hx1b := hx1 1; simp at hx1a hx1b
    go_simp
    exact hK _ _ rfl rfl (World.grownBy.refl _ none)
  refine MonoR.step (Pv.eq (.pointer (some ⟨gp, 1, none⟩))) [] (by kernel_rfl) (fun w' hw' => ?_) ?_
  · refine ask_do rfl fun K hK => ?_
    go_simp
    exact hK _ _ rfl rfl (World.grownBy.refl _ none)
  refine MonoR.step (Pv.eq (.int .u64 p.Q)) [(4, 10)] (by kernel_rfl) (fun w' hw' => ?_) ?_
  · rintro _ rfl
    refine ask_do rfl fun K hK => ?_
    have hq := (HP.out.grown ((grown_drewN' W 1).trans hw') (by simp)).prule
    have hx0 := (HX0.out.grown ((grown_drewN' W 1).trans hw') (by simp)).cell
    have hx1 := (HX1.out.grown ((grown_drewN' W 1).trans hw') (by simp)).cell
    have hx0a := hx0 0; have hx0b := hx0 1; simp at hx0a hx0b; have hx1a := hx1 0; have hx1b := hx1 1; simp at hx1a hx1b
    go_simp
    exact hK _ _ rfl rfl (World.grownBy.refl _ none)
  refine MonoR.step (Pv.eq (.int .u64 (addI x.1 y.1 p.Q))) [(1, 7), (3, 9), (5, 11)] (by kernel_rfl) (fun w' hw' => ?_) ?_
  · rintro _ rfl
    rintro _ rfl
    rintro _ rfl
    refine ask_do rfl fun K hK => ?_
    go_simp
    refine (add_gr x.1 y.1 p.Q w' HU.out.1 HU.out.2.2.1).mono ?_
    rintro e w3 ⟨rfl, hg⟩
    exact hK _ _ rfl rfl hg
  refine MonoR.step (Pv.eq (.pointer (some ⟨w.heap.size, 1, none⟩))) [] (by kernel_rfl) (fun w' hw' => ?_) ?_
  · refine ask_do rfl fun K hK => ?_
    go_simp
    exact hK _ _ rfl rfl (World.grownBy.refl _ none)
  refine MonoR.step (Pv.eq (.int .u64 x.2)) [(7, 13)] (by kernel_rfl) (fun w' hw' => ?_) ?_
  · rintro _ rfl
    refine ask_do rfl fun K hK => ?_
    have hq := (HP.out.grown ((grown_drewN' W 1).trans hw') (by simp)).prule
    have hx0 := (HX0.out.grown ((grown_drewN' W 1).trans hw') (by simp)).cell
    have hx1 := (HX1.out.grown ((grown_drewN' W 1).trans hw') (by simp)).cell
    have hx0a := hx0 0; have hx0b := hx0 1; simp at hx0a hx0b; have hx1a := hx1 0; have hx1b := hx1 1; simp at hx1a hx1b
    go_simp
    exact hK _ _ rfl rfl (World.grownBy.refl _ none)
  refine MonoR.step (Pv.eq (.pointer (some ⟨w.heap.size + 1, 1, none⟩))) [] (by kernel_rfl) (fun w' hw' => ?_) ?_
  · refine ask_do rfl fun K hK => ?_
    go_simp
    exact hK _ _ rfl rfl (World.grownBy.refl _ none)
  refine MonoR.step (Pv.eq (.int .u64 y.2)) [(9, 15)] (by kernel_rfl) (fun w' hw' => ?_) ?_
  · rintro _ rfl
    refine ask_do rfl fun K hK => ?_
    have hq := (HP.out.grown ((grown_drewN' W 1).trans hw') (by simp)).prule
    have hx0 := (HX0.out.grown ((grown_drewN' W 1).trans hw') (by simp)).cell
    have hx1 := (HX1.out.grown ((grown_drewN' W 1).trans hw') (by simp)).cell
    have hx0a := hx0 0; have hx0b := hx0 1; simp at hx0a hx0b; have hx1a := hx1 0; have hx1b := hx1 1; simp at hx1a hx1b
    go_simp
    exact hK _ _ rfl rfl (World.grownBy.refl _ none)
  refine MonoR.step (Pv.eq (.pointer (some ⟨gp, 1, none⟩))) [] (by kernel_rfl) (fun w' hw' => ?_) ?_
  · refine ask_do rfl fun K hK => ?_
    go_simp
    exact hK _ _ rfl rfl (World.grownBy.refl _ none)
  refine MonoR.step (Pv.eq (.int .u64 p.Q)) [(11, 17)] (by kernel_rfl) (fun w' hw' => ?_) ?_
  · rintro _ rfl
    refine ask_do rfl fun K hK => ?_
    have hq := (HP.out.grown ((grown_drewN' W 1).trans hw') (by simp)).prule
    have hx0 := (HX0.out.grown ((grown_drewN' W 1).trans hw') (by simp)).cell
    have hx1 := (HX1.out.grown ((grown_drewN' W 1).trans hw') (by simp)).cell
    have hx0a := hx0 0; have hx0b := hx0 1; simp at hx0a hx0b; have hx1a := hx1 0; have hx1b := hx1 1; simp at hx1a hx1b
    go_simp
    exact hK _ _ rfl rfl (World.grownBy.refl _ none)
  refine MonoR.step (Pv.eq (.int .u64 (addI x.2 y.2 p.Q))) [(8, 14), (10, 16), (12, 18)] (by kernel_rfl) (fun w' hw' => ?_) ?_
  · rintro _ rfl
    rintro _ rfl
    rintro _ rfl
    refine ask_do rfl fun K hK => ?_
    go_simp
    refine (add_gr x.2 y.2 p.Q w' HU.out.2.1 HU.out.2.2.2).mono ?_
    rintro e w3 ⟨rfl, hg⟩
    exact hK _ _ rfl rfl hg
  refine MonoR.step (Pv.eq (.agg #[.int .u64 (addI x.1 y.1 p.Q), .int .u64 (addI x.2 y.2 p.Q)])) [(6, 12), (13, 19)] (by kernel_rfl) (fun w' hw' => ?_) ?_
  · rintro _ rfl
    rintro _ rfl
    refine ask_do rfl fun K hK => ?_
    go_simp
    exact hK _ _ rfl rfl (World.grownBy.refl _ none)
  intro w3 hw3
  intro y0 e0 y1 e1 y2 e2 y3 e3 y4 e4 y5 e5 y6 e6 y7 e7 y8 e8 y9 e9 y10 e10 y11 e11 y12 e12 y13 e13 y14 e14
  have e0 : y0 = .pointer (some ⟨w.heap.size, 0, none⟩) := e0
  subst e0
  have e1 : y1 = .int .u64 x.1 := e1
  subst e1
  have e2 : y2 = .pointer (some ⟨w.heap.size + 1, 0, none⟩) := e2
  subst e2
  have e3 : y3 = .int .u64 y.1 := e3
  subst e3
  have e4 : y4 = .pointer (some ⟨gp, 1, none⟩) := e4
  subst e4
  have e5 : y5 = .int .u64 p.Q := e5
  subst e5
  have e6 : y6 = .int .u64 (addI x.1 y.1 p.Q) := e6
  subst e6
  have e7 : y7 = .pointer (some ⟨w.heap.size, 1, none⟩) := e7
  subst e7
  have e8 : y8 = .int .u64 x.2 := e8
  subst e8
  have e9 : y9 = .pointer (some ⟨w.heap.size + 1, 1, none⟩) := e9
  subst e9
  have e10 : y10 = .int .u64 y.2 := e10
  subst e10
  have e11 : y11 = .pointer (some ⟨gp, 1, none⟩) := e11
  subst e11
  have e12 : y12 = .int .u64 p.Q := e12
  subst e12
  have e13 : y13 = .int .u64 (addI x.2 y.2 p.Q) := e13
  subst e13
  have e14 : y14 = .agg #[.int .u64 (addI x.1 y.1 p.Q), .int .u64 (addI x.2 y.2 p.Q)] := e14
  subst e14
  simp only [Act.put, List.setIfInBounds_toArray, List.set_cons_zero, List.set_cons_succ]
  have hr3 := HR.out.grown ((grown_drewN' W 1).trans hw3) (by simp)
  have hc0 := hr3.cell 0
  have hc1 := hr3.cell 1
  have hf0 := hr3.free 0
  have hf1 := hr3.free 1
  simp at hc0 hc1
  have hk5 := (hr3.set 0 (.int .u64 (addI x.1 y.1 p.Q))).set 1 (.int .u64 (addI x.2 y.2 p.Q))
  have hk0 := hk5.cell 0
  have hk1 := hk5.cell 1
  simp at hk0 hk1
  have HF : Hid (w.grownBy ((w3.setCell ⟨w.heap.size + 1 + 1, 0, none⟩ (.int .u64 (addI x.1 y.1 p.Q))).setCell ⟨w.heap.size + 1 + 1, 1, none⟩ (.int .u64 (addI x.2 y.2 p.Q))) none) := Lib.hid (grown_of_below (((below_grown (HG.out.1.trans ((grown_drewN' W 1).trans hw3))).setCell (p := ⟨w.heap.size + 1 + 1, 0, none⟩) (by simp <;> omega) _).setCell (p := ⟨w.heap.size + 1 + 1, 1, none⟩) (by simp <;> omega) _))
  clear hw3 hr3 hk5
  refine wpList_plain rfl fun K hK => ?_
  go_simp
  refine hK _ _ (wpList_nil ?_)
  go_wp2_with fail
  refine bodyPost_ret (v := .agg #[.int .u64 (addI x.1 y.1 p.Q), .int .u64 (addI x.2 y.2 p.Q)]) (by simp [results, Try.results31, go_sem, *]) rfl ⟨rfl, HF.out⟩
end Go.Proofs.Ytlhjbllfcbojmaa

namespace Go.Proofs.Ytlhjbllfcbojmaa
open Go Go.RowKit

/-- What pairs come to. -/
def comeP (Q : Int) : List (Int × Int) → List Int → Int × Int → Int × Int
  | x :: l, k :: ks, a => comeP Q l ks (addI a.1 (mulI x.1 k Q) Q, addI a.2 (mulI x.2 k Q) Q)
  | _, _, a => a
theorem comeP_snoc (Q : Int) : ∀ (l : List (Int × Int)) (ks : List Int) (a : Int × Int) (j : Nat) (h : j < l.length) (h' : j < ks.length), comeP Q (l.take (j + 1)) (ks.take (j + 1)) a = (addI (comeP Q (l.take j) (ks.take j) a).1 (mulI l[j].1 ks[j] Q) Q, addI (comeP Q (l.take j) (ks.take j) a).2 (mulI l[j].2 ks[j] Q) Q)
  | x :: l, k :: ks, a, 0, _, _ => by simp [comeP]
  | x :: l, k :: ks, a, j + 1, h, h' => by
    simp only [List.take_succ_cons, comeP, List.getElem_cons_succ]
    exact comeP_snoc Q l ks _ j (by simpa using h) (by simpa using h')
theorem comeP_take (Q : Int) : ∀ (l : List (Int × Int)) (ks : List Int) (a : Int × Int), comeP Q l (ks.take l.length) a = comeP Q l ks a
  | [], _, _ => by simp [comeP]
  | _ :: _, [], _ => by simp [comeP]
  | x :: l, k :: ks, a => by simp only [List.length_cons, List.take_succ_cons, comeP]; exact comeP_take Q l ks _
set_option maxRecDepth 100000 in
set_option maxHeartbeats 1000000 in
theorem comeP_any (p : Par) (gp : Nat) (vl vk : Value) (l : List (Int × Int)) (ks : List Int) (a : Int × Int) (X Y : Nat → Prop) (w : World) (hb : Bk w gp 24 p.cells) (hl : Sl encP X w vl l) (hk : Sl encU Y w vk ks) (hlen : l.length ≤ ks.length) (ha : U64 a.1) (ha2 : U64 a.2) (hau : ∀ x y, U64 (addI x y p.Q)) (hmu : ∀ x y, U64 (mulI x y p.Q)) :
    Calls Try.prog 33 #[vl, vk, .agg #[.int .u64 a.1, .int .u64 a.2], .func (.func 29) #[] #[.pointer (some ⟨gp, 0, none⟩)], .func (.func 31) #[] #[.pointer (some ⟨gp, 0, none⟩)]] w fun e w' => e = .returned (.agg #[.int .u64 (comeP p.Q l ks a).1, .int .u64 (comeP p.Q l ks a).2]) ∧ w.grownBy w' none := by
  have HB := Lib.hid hb
  have HL := Lib.hid hl
  have HK := Lib.hid hk
  have HLN := Lib.hid hlen
  have HAU := Lib.hid hau
  have HMU := Lib.hid hmu
  have HST : Hid (Bk ((w.alloc (.cells #[.int .u64 a.1, .int .u64 a.2] 47)).alloc (.cells #[.int .u64 0, .int .u64 0] 47)) w.heap.size 47 #[.int .u64 a.1, .int .u64 a.2] ∧ Bk ((w.alloc (.cells #[.int .u64 a.1, .int .u64 a.2] 47)).alloc (.cells #[.int .u64 0, .int .u64 0] 47)) (w.heap.size + 1) 47 #[.int .u64 0, .int .u64 0] ∧ Below w.heap.size w ((w.alloc (.cells #[.int .u64 a.1, .int .u64 a.2] 47)).alloc (.cells #[.int .u64 0, .int .u64 0] 47)) ∧ U64 a.1 ∧ U64 a.2 ∧ a = comeP p.Q (l.take 0) (ks.take 0) a) := Lib.hid ⟨(Bk.new w _ _).alloc _, (by have := Bk.new (w.alloc (.cells #[.int .u64 a.1, .int .u64 a.2] 47)) 47 #[.int .u64 0, .int .u64 0]; simpa using this), below_grown ((World.grownBy_alloc w _ none).trans (World.grownBy_alloc _ _ none)), ha, ha2, by simp [comeP]⟩
  obtain ⟨A, c, rfl, hc1, hc2⟩ := hl.form
  obtain ⟨A2, c2, rfl, hc3, hc4⟩ := hk.form
  clear hb hl hk hlen ha ha2 hau hmu
  go_enter Try.func33, Try.ntmps33
  go_wp2_with fail
  go_loopg [15] l.length (fun g s15 wx => ∃ (j : Nat) (b : Int × Int), j + g = l.length ∧ s15 = .int .i64 j ∧ Hid (Bk wx w.heap.size 47 #[.int .u64 b.1, .int .u64 b.2] ∧ Bk wx (w.heap.size + 1) 47 #[.int .u64 0, .int .u64 0] ∧ Below w.heap.size w wx ∧ U64 b.1 ∧ U64 b.2 ∧ b = comeP p.Q (l.take j) (ks.take j) a))
  case atStart => exact ⟨0, a, by omega, rfl, HST⟩
  case round =>
    obtain ⟨j, b, hj, rfl, HX⟩ := hrel
    clear HST
    cases gk with
    | zero =>
      obtain rfl : j = l.length := by omega
      have HE : Hid (b = comeP p.Q l ks a) := Lib.hid (by rw [HX.out.2.2.2.2.2, List.take_length, comeP_take])
      have h00 := HX.out.1.cell 0
      have h01 := HX.out.1.cell 1
      have h10 := HX.out.2.1.cell 0
      have h11 := HX.out.2.1.cell 1
      have f10 := HX.out.2.1.free 0
      have f11 := HX.out.2.1.free 1
      have hk5 := (HX.out.2.1.set 0 (.int .u64 b.1)).set 1 (.int .u64 b.2)
      have hk0 := hk5.cell 0
      have hk1 := hk5.cell 1
      simp at h00 h01 h10 h11 hk0 hk1
      have HF : Hid (w.grownBy ((wr.setCell ⟨w.heap.size + 1, 0, none⟩ (.int .u64 b.1)).setCell ⟨w.heap.size + 1, 1, none⟩ (.int .u64 b.2)) none) := Lib.hid (grown_of_below ((HX.out.2.2.1.setCell (p := ⟨w.heap.size + 1, 0, none⟩) (by simp) _).setCell (p := ⟨w.heap.size + 1, 1, none⟩) (by simp) _))
      clear HX hk5
      go_wp2_with fail
      refine bodyPost_ret (v := .agg #[.int .u64 b.1, .int .u64 b.2]) (by simp [results, Try.results33, go_sem, *]) rfl ⟨by rw [HE.out], HF.out⟩
    | succ m =>
      have hjn : (j : Int) < (l.length : Int) := by omega
      have hjN : j < l.length := by omega
      have hjK : j < ks.length := Nat.lt_of_lt_of_le hjN HLN.out
      have hjk : (j : Int) < (ks.length : Int) := by omega
      have hg := grown_of_below HX.out.2.2.1
      obtain ⟨g, o, c', e, _, _, hcu, hcu1, hux, hux1⟩ := (HL.out.kept hg).atP hjN
      injection e with e1 e2 e3
      subst e1 e3
      obtain ⟨g2, o2, c2', e, _, _, hcu2, huk⟩ := HK.out.atU hjK
      injection e with e1 e2 e3
      subst e1 e3
      have HSN : Hid (comeP p.Q (l.take (j + 1)) (ks.take (j + 1)) a = (addI b.1 (mulI l[j].1 ks[j] p.Q) p.Q, addI b.2 (mulI l[j].2 ks[j] p.Q) p.Q)) := Lib.hid (by rw [comeP_snoc _ _ _ _ _ hjN hjK, ← HX.out.2.2.2.2.2])
      have HKC0 := Lib.hid hcu2
      have HUX : Hid (U64 l[j].1 ∧ U64 l[j].2 ∧ U64 ks[j]) := Lib.hid ⟨hux, hux1, huk⟩
      clear hcu2 hux hux1 huk hg
      obtain ⟨b1, b2⟩ := b
      generalize l[j] = x at *
      obtain ⟨x1, x2⟩ := x
      generalize ks[j] = k at *
      generalize l.length = n at *
      generalize ks.length = n2 at *
      dsimp only at hcu hcu1
      have HHX := HX
      clear HX
      go_wp2_with fail
      obtain ⟨W, hW⟩ : ∃ W, W = wr.alloc (Obj.cells #[.int .u64 x1, .int .u64 x2] 47) := ⟨_, rfl⟩
      rw [← hW]
      have HB0 : Hid (Bk W.drew w.heap.size 47 #[.int .u64 b1, .int .u64 b2]) := Lib.hid (by rw [hW]; exact HHX.out.1.alloc _)
      have HB1 : Hid (Bk W.drew (w.heap.size + 1) 47 #[.int .u64 0, .int .u64 0]) := Lib.hid (by rw [hW]; exact HHX.out.2.1.alloc _)
      have HY0 : Hid (Bk W.drew wr.heap.size 47 #[.int .u64 x1, .int .u64 x2]) := Lib.hid (by rw [hW]; exact Bk.new wr _ _)
      have hBL := HHX.out.2.2.1
      have HGW : Hid (w.grownBy W.drew none) := Lib.hid (by rw [hW]; exact ((grown_of_below hBL).trans (World.grownBy_alloc _ _ none)).trans (grown_drewN' _ 1))
      have HKC : Hid (∀ w', W.drew.grownBy w' none → w'.cell? ⟨g2, o2 + j, none⟩ = some (.int .u64 k)) := Lib.hid (fun w' hw' => cell_kept HKC0.out (HGW.out.trans hw') (by simp))
      have HGP : Hid (Bk W.drew gp 24 p.cells) := Lib.hid (HB.out.grown HGW.out (by simp))
      have H2 : Hid (∀ w', W.drew.grownBy w' none → Calls Try.prog 29 #[.agg #[.int .u64 x1, .int .u64 x2], .int .u64 k, .pointer (some ⟨gp, 0, none⟩)] w' fun e w'' => e = .returned (.agg #[.int .u64 (mulI x1 k p.Q), .int .u64 (mulI x2 k p.Q)]) ∧ w'.grownBy w'' none) := Lib.hid (fun w' hw' => sum2_any p gp (x1, x2) k w' (HGP.out.grown hw' (by simp)) HUX.out.1 HUX.out.2.1 HUX.out.2.2 trivial)
      have H3 : Hid (∀ w', W.drew.grownBy w' none → Calls Try.prog 31 #[.agg #[.int .u64 b1, .int .u64 b2], .agg #[.int .u64 (mulI x1 k p.Q), .int .u64 (mulI x2 k p.Q)], .pointer (some ⟨gp, 0, none⟩)] w' fun e w'' => e = .returned (.agg #[.int .u64 (addI b1 (mulI x1 k p.Q) p.Q), .int .u64 (addI b2 (mulI x2 k p.Q) p.Q)]) ∧ w'.grownBy w'' none) := Lib.hid (fun w' hw' => sum3_any p gp (b1, b2) (mulI x1 k p.Q, mulI x2 k p.Q) w' (HGP.out.grown hw' (by simp)) HHX.out.2.2.2.1 HHX.out.2.2.2.2.1 (HMU.out _ _) (HMU.out _ _))
      clear hW hBL hcu hcu1
      refine wp_region_mono 10 (by kernel_rfl) (by kernel_rfl) ?_
      refine MonoR.step (Pv.eq (.func (.func 31) #[] #[.pointer (some ⟨gp, 0, none⟩)])) [] (by kernel_rfl) (fun w' hw' => ?_) ?_
      · refine ask_do rfl fun K hK => ?_
        go_simp
        exact hK _ _ rfl rfl (World.grownBy.refl _ none)
      refine MonoR.step (Pv.eq (.agg #[.int .u64 (b1), .int .u64 (b2)])) [] (by kernel_rfl) (fun w' hw' => ?_) ?_
      · refine ask_do rfl fun K hK => ?_
        have hb0 := (HB0.out.grown hw' (by simp)).cell 0
        have hb1 := (HB0.out.grown hw' (by simp)).cell 1
        have hy0 := (HY0.out.grown hw' (by simp)).cell 0
        have hy1 := (HY0.out.grown hw' (by simp)).cell 1
        have hkc := HKC.out w' hw'
        simp at hb0 hb1 hy0 hy1
        go_simp
        exact hK _ _ rfl rfl (World.grownBy.refl _ none)
      refine MonoR.step (Pv.eq (.func (.func 29) #[] #[.pointer (some ⟨gp, 0, none⟩)])) [] (by kernel_rfl) (fun w' hw' => ?_) ?_
      · refine ask_do rfl fun K hK => ?_
        go_simp
        exact hK _ _ rfl rfl (World.grownBy.refl _ none)
      refine MonoR.step (Pv.eq (.agg #[.int .u64 (x1), .int .u64 (x2)])) [] (by kernel_rfl) (fun w' hw' => ?_) ?_
      · refine ask_do rfl fun K hK => ?_
        have hb0 := (HB0.out.grown hw' (by simp)).cell 0
        have hb1 := (HB0.out.grown hw' (by simp)).cell 1
        have hy0 := (HY0.out.grown hw' (by simp)).cell 0
        have hy1 := (HY0.out.grown hw' (by simp)).cell 1
        have hkc := HKC.out w' hw'
        simp at hb0 hb1 hy0 hy1
        go_simp
        exact hK _ _ rfl rfl (World.grownBy.refl _ none)
      refine MonoR.step (Pv.eq (.slice (some ⟨g2, o2, none⟩) n2 c2)) [] (by kernel_rfl) (fun w' hw' => ?_) ?_
      · refine ask_do rfl fun K hK => ?_
        go_simp
        exact hK _ _ rfl rfl (World.grownBy.refl _ none)
      refine MonoR.step (Pv.eq (.int .i64 j)) [] (by kernel_rfl) (fun w' hw' => ?_) ?_
      · refine ask_do rfl fun K hK => ?_
        go_simp
        exact hK _ _ rfl rfl (World.grownBy.refl _ none)
      refine MonoR.step (Pv.eq (.pointer (some ⟨g2, o2 + j, none⟩))) [(4, 24), (5, 25)] (by kernel_rfl) (fun w' hw' => ?_) ?_
      · rintro _ rfl
        rintro _ rfl
        refine ask_do rfl fun K hK => ?_
        go_simp
        exact hK _ _ rfl rfl (World.grownBy.refl _ none)
      refine MonoR.step (Pv.eq (.int .u64 k)) [(6, 26)] (by kernel_rfl) (fun w' hw' => ?_) ?_
      · rintro _ rfl
        refine ask_do rfl fun K hK => ?_
        have hb0 := (HB0.out.grown hw' (by simp)).cell 0
        have hb1 := (HB0.out.grown hw' (by simp)).cell 1
        have hy0 := (HY0.out.grown hw' (by simp)).cell 0
        have hy1 := (HY0.out.grown hw' (by simp)).cell 1
        have hkc := HKC.out w' hw'
        simp at hb0 hb1 hy0 hy1
        go_simp
        exact hK _ _ rfl rfl (World.grownBy.refl _ none)
      refine MonoR.step (Pv.eq (.agg #[.int .u64 (mulI x1 k p.Q), .int .u64 (mulI x2 k p.Q)])) [(2, 22), (3, 23), (7, 27)] (by kernel_rfl) (fun w' hw' => ?_) ?_
      · rintro _ rfl
        rintro _ rfl
        rintro _ rfl
        refine ask_do rfl fun K hK => ?_
        go_simp
        refine (H2.out w' hw').mono ?_
        rintro e w3 ⟨rfl, hg⟩
        exact hK _ _ rfl rfl hg
      refine MonoR.step (Pv.eq (.agg #[.int .u64 (addI b1 (mulI x1 k p.Q) p.Q), .int .u64 (addI b2 (mulI x2 k p.Q) p.Q)])) [(0, 20), (1, 21), (8, 28)] (by kernel_rfl) (fun w' hw' => ?_) ?_
      · rintro _ rfl
        rintro _ rfl
        rintro _ rfl
        refine ask_do rfl fun K hK => ?_
        go_simp
        refine (H3.out w' hw').mono ?_
        rintro e w3 ⟨rfl, hg⟩
        exact hK _ _ rfl rfl hg
      intro w3 hw3
      intro y0 e0 y1 e1 y2 e2 y3 e3 y4 e4 y5 e5 y6 e6 y7 e7 y8 e8 y9 e9
      have e0 : y0 = .func (.func 31) #[] #[.pointer (some ⟨gp, 0, none⟩)] := e0
      subst e0
      have e1 : y1 = .agg #[.int .u64 (b1), .int .u64 (b2)] := e1
      subst e1
      have e2 : y2 = .func (.func 29) #[] #[.pointer (some ⟨gp, 0, none⟩)] := e2
      subst e2
      have e3 : y3 = .agg #[.int .u64 (x1), .int .u64 (x2)] := e3
      subst e3
      have e4 : y4 = .slice (some ⟨g2, o2, none⟩) n2 c2 := e4
      subst e4
      have e5 : y5 = .int .i64 j := e5
      subst e5
      have e6 : y6 = .pointer (some ⟨g2, o2 + j, none⟩) := e6
      subst e6
      have e7 : y7 = .int .u64 k := e7
      subst e7
      have e8 : y8 = .agg #[.int .u64 (mulI x1 k p.Q), .int .u64 (mulI x2 k p.Q)] := e8
      subst e8
      have e9 : y9 = .agg #[.int .u64 (addI b1 (mulI x1 k p.Q) p.Q), .int .u64 (addI b2 (mulI x2 k p.Q) p.Q)] := e9
      subst e9
      simp only [Act.put, List.setIfInBounds_toArray, List.set_cons_zero, List.set_cons_succ]
      have hr3 := HB0.out.grown hw3 (by simp)
      have hc0 := hr3.cell 0
      have hc1 := hr3.cell 1
      have hf0 := hr3.free 0
      have hf1 := hr3.free 1
      simp at hc0 hc1
      have HFIN : Hid (Bk ((w3.setCell ⟨w.heap.size, 0, none⟩ (.int .u64 (addI b1 (mulI x1 k p.Q) p.Q))).setCell ⟨w.heap.size, 1, none⟩ (.int .u64 (addI b2 (mulI x2 k p.Q) p.Q))) w.heap.size 47 #[.int .u64 (addI b1 (mulI x1 k p.Q) p.Q), .int .u64 (addI b2 (mulI x2 k p.Q) p.Q)] ∧ Bk ((w3.setCell ⟨w.heap.size, 0, none⟩ (.int .u64 (addI b1 (mulI x1 k p.Q) p.Q))).setCell ⟨w.heap.size, 1, none⟩ (.int .u64 (addI b2 (mulI x2 k p.Q) p.Q))) (w.heap.size + 1) 47 #[.int .u64 0, .int .u64 0] ∧ Below w.heap.size w ((w3.setCell ⟨w.heap.size, 0, none⟩ (.int .u64 (addI b1 (mulI x1 k p.Q) p.Q))).setCell ⟨w.heap.size, 1, none⟩ (.int .u64 (addI b2 (mulI x2 k p.Q) p.Q))) ∧ U64 (addI b1 (mulI x1 k p.Q) p.Q) ∧ U64 (addI b2 (mulI x2 k p.Q) p.Q) ∧ (addI b1 (mulI x1 k p.Q) p.Q, addI b2 (mulI x2 k p.Q) p.Q) = comeP p.Q (l.take (j + 1)) (ks.take (j + 1)) a) := Lib.hid ⟨by have := (hr3.set 0 (.int .u64 (addI b1 (mulI x1 k p.Q) p.Q))).set 1 (.int .u64 (addI b2 (mulI x2 k p.Q) p.Q)); simpa using this, ((HB1.out.grown hw3 (by simp)).far (p := ⟨w.heap.size, 0, none⟩) (by simp) _).far (p := ⟨w.heap.size, 1, none⟩) (by simp) _, (((below_grown (HGW.out.trans hw3))).setCell (p := ⟨w.heap.size, 0, none⟩) (by simp) _).setCell (p := ⟨w.heap.size, 1, none⟩) (by simp) _, HAU.out _ _, HAU.out _ _, HSN.out.symm⟩
      clear hw3 hr3
      refine wpList_plain rfl fun K hK => ?_
      go_simp
      refine hK _ _ (wpList_nil ?_)
      go_wp2_with fail
      go_roundg m
      case measure => omega
      case rel => exact ⟨j + 1, (addI b1 (mulI x1 k p.Q) p.Q, addI b2 (mulI x2 k p.Q) p.Q), by omega, by go_num, HFIN⟩
end Go.Proofs.Ytlhjbllfcbojmaa

namespace Go.Proofs.Ytlhjbllfcbojmaa
open Go Go.RowKit

/-- What is wrong with a sum. -/
noncomputable def sumE (p : Par) (at_ : List Int) (l : List (List (Int × Int))) : Int := if smallB p && membersB at_ && at_.length == l.length && !l.any (fun x => oddB p x) then wErr p.Q at_ 0 else 1
/-- What pairs of members come to. -/
noncomputable def sumL (p : Par) (at_ : List Int) (l : List (List (Int × Int))) : List (Int × Int) := if sumE p at_ l = 0 then (List.range (secretsI p).toNat).map fun s => comeP p.Q (l.map fun x => x[s]?.getD (0, 0)) (wList p.Q at_ 0) (0, 0) else []
theorem wrap64_small {n : Int} (h : -9223372036854775808 ≤ n ∧ n ≤ 9223372036854775807) : wrap64 n = n := by unfold wrap64; omega
theorem addI_u64 (a b m : Int) (hm : mayB m = true) : U64 (addI a b m) := by
  unfold addI
  rw [if_pos hm]
  simp [mayB] at hm
  have h1 := Int.emod_nonneg (a % m + b % m) (show m ≠ 0 by omega)
  have h2 := Int.emod_lt_of_pos (a % m + b % m) hm.1
  exact ⟨h1, by omega⟩
theorem comeP_U64 (Q : Int) (h : ∀ x y, U64 (addI x y Q)) : ∀ (l : List (Int × Int)) (ks : List Int) (a : Int × Int), U64 a.1 → U64 a.2 → U64 (comeP Q l ks a).1 ∧ U64 (comeP Q l ks a).2
  | [], _, _, h1, h2 => ⟨h1, h2⟩
  | _ :: _, [], _, h1, h2 => ⟨h1, h2⟩
  | _ :: l, _ :: ks, _, _, _ => comeP_U64 Q h l ks _ (h _ _) (h _ _)
theorem smallB_secrets {p : Par} (h : smallB p = true) : 0 ≤ secretsI p ∧ secretsI p ≤ 10 := by
  simp [smallB] at h
  obtain ⟨h1, h2, h3, h4⟩ := h
  have e1 : wrap64 (p.D + 1) = p.D + 1 := wrap64_small (by omega)
  have h5 : 0 ≤ p.K * (p.D + 1) := Int.mul_nonneg h1 (by omega)
  have h6 : p.K * (p.D + 1) ≤ 2 * 5 := Int.mul_le_mul h3 (by omega) (by omega) (by omega)
  have e2 : secretsI p = p.K * (p.D + 1) := by unfold secretsI; rw [e1]; exact wrap64_small (by omega)
  rw [e2]
  omega
end Go.Proofs.Ytlhjbllfcbojmaa

namespace Go.Proofs.Ytlhjbllfcbojmaa
open Go Go.RowKit

/-- The whole number of a number. -/
def fixI (x q : Int) : Int := if q = 0 then 0 else if addI x 0 q ≤ (q - 1) / 2 then addI x 0 q else addI x 0 q - q
set_option maxHeartbeats 400000 in
theorem fixInt_any (x q : Int) (w : World) (hx : U64 x) (hq : U64 q) :
    Calls Try.prog 45 #[.int .u64 x, .int .u64 q] w fun e w' => e = .returned (.int .i64 (fixI x q)) ∧ w.grownBy w' none := by
  have HA := Lib.hid (add_gr x 0 q w hx ⟨by decide, by decide⟩)
  obtain ⟨q0, q1⟩ := hq
  by_cases hz : q = 0
  · subst hz
    have hr : addI x 0 0 = 0 := by simp [addI, mayB]
    have hr2 : fixI x 0 = 0 := by simp [fixI]
    rw [hr] at HA
    rw [hr2]
    clear hr hr2 hx
    go_enter Try.func45, Try.ntmps45
    go_wp2_with fail
    refine HA.out.mono ?_
    rintro e w1 ⟨rfl, hg⟩
    have HG := Lib.hid hg
    clear hg
    go_wp2
    go_ret
    exact ⟨rfl, HG.out⟩
  · have hqz : (q == 0) = false := by simp [hz]
    have e1 : IntKind.u64.wrap (q - 1) = q - 1 := IntWalk.u64_in _ (by omega)
    have e2 : Int.tdiv (q - 1) 2 = (q - 1) / 2 := Int.tdiv_eq_ediv_of_nonneg (by omega)
    have hb : 0 ≤ addI x 0 q ∧ addI x 0 q < 2305843009213693952 ∧ (¬ addI x 0 q ≤ (q - 1) / 2 → q ≤ 2305843009213693952) := by
      cases hm : mayB q with
      | false =>
        have : addI x 0 q = 0 := by simp [addI, hm]
        rw [this]
        exact ⟨by omega, by omega, fun h => by omega⟩
      | true =>
        have := addI_bd x 0 q hm
        simp [mayB] at hm
        exact ⟨this.1, by omega, fun _ => hm.2⟩
    obtain ⟨hb0, hb1, hb2⟩ := hb
    have hf : fixI x q = if addI x 0 q ≤ (q - 1) / 2 then addI x 0 q else addI x 0 q - q := by simp [fixI, hz]
    have e3 : IntKind.i64.wrap (addI x 0 q) = addI x 0 q := IntWalk.i64_in _ (by omega)
    by_cases hle : addI x 0 q ≤ (q - 1) / 2
    · rw [hf, if_pos hle]
      have hd : decide (addI x 0 q ≤ (q - 1) / 2) = true := by simpa using hle
      clear hf hle hx hb2
      generalize addI x 0 q = v at *
      go_enter Try.func45, Try.ntmps45
      go_wp2_with fail
      refine HA.out.mono ?_
      rintro e w1 ⟨rfl, hg⟩
      have HG := Lib.hid hg
      clear hg
      go_wp2
      go_ret
      exact ⟨rfl, HG.out⟩
    · rw [hf, if_neg hle]
      have hq2 := hb2 hle
      have hd : decide (addI x 0 q ≤ (q - 1) / 2) = false := by simpa using hle
      have e4 : IntKind.i64.wrap q = q := IntWalk.i64_in _ (by omega)
      have e5 : IntKind.i64.wrap (addI x 0 q - q) = addI x 0 q - q := IntWalk.i64_in _ (by omega)
      clear hf hle hx hb2
      generalize addI x 0 q = v at *
      go_enter Try.func45, Try.ntmps45
      go_wp2_with fail
      refine HA.out.mono ?_
      rintro e w1 ⟨rfl, hg⟩
      have HG := Lib.hid hg
      clear hg
      go_wp2
      go_ret
      exact ⟨rfl, HG.out⟩
end Go.Proofs.Ytlhjbllfcbojmaa

namespace Go.Proofs.Ytlhjbllfcbojmaa
open Go Go.RowKit

/-- What a dealer dealt: the dealer, and lists of commitments. -/
def encD : Enc (Int × List (List Int)) where
  size := 2
  pos := by decide
  rep := fun X w cs d => ∃ v, cs = [.int .i64 d.1, v] ∧ I64 d.1 ∧ Sl (encS encU) X w v d.2
  len := fun h => by obtain ⟨v, rfl, _⟩ := h; rfl
  ones := fun h u hu => by
    obtain ⟨v, rfl, _, A, c, rfl, _⟩ := h
    simp at hu
    rcases hu with rfl | rfl <;> rfl
  keep := fun h hg hX => by obtain ⟨v, e, i, h⟩ := h; exact ⟨v, e, i, h.keep hg hX⟩
  more := fun h hX => by obtain ⟨v, e, i, h⟩ := h; exact ⟨v, e, i, h.more hX⟩
  keepc := fun h hg hr => by obtain ⟨v, e, i, h⟩ := h; exact ⟨v, e, i, h.keepc hg hr⟩
theorem Sl.atD {X : Nat → Prop} {w : World} {v : Value} {xs : List (Int × List (List Int))} (h : Sl encD X w v xs) {k : Nat} (hk : k < xs.length) :
    ∃ g o c u, v = .slice (some ⟨g, o, none⟩) xs.length c ∧ g < w.heap.size ∧ X g ∧ w.cell? ⟨g, o + k * 2, none⟩ = some (.int .i64 xs[k].1) ∧ w.cell? ⟨g, o + k * 2 + 1, none⟩ = some u ∧ I64 xs[k].1 ∧ Sl (encS encU) X w u xs[k].2 := by
  obtain ⟨g, o, c, cs, e, hg, hX, ⟨u, rfl, hi, hu⟩, hc⟩ := h.at hk
  exact ⟨g, o, c, u, e, hg, hX, hc 0 _ rfl, hc 1 _ rfl, hi, hu⟩
/-- What is wrong with commitments put together. -/
noncomputable def comsE (p : Par) (deals : List (Int × List (List Int))) : Int :=
  if smallB p && decide (0 ≤ p.T ∧ p.T ≤ 2) && !deals.any (fun d => !((d.2.length : Int) == secretsI p) || d.2.any (shortB p)) && membersB (deals.map (·.1)) then wErr p.Q (deals.map (·.1)) 0 else 1
/-- .. and what they come to. -/
noncomputable def comsL (p : Par) (deals : List (Int × List (List Int))) : List (List Int) :=
  if comsE p deals = 0 then (List.range (secretsI p).toNat).map fun s => (List.range (p.T + 1).toNat).map fun j => comeU p.P (deals.map fun d => (d.2[s]?.getD [])[j]?.getD 0) (wList p.Q (deals.map (·.1)) 0) (timesI p.P []) else []
end Go.Proofs.Ytlhjbllfcbojmaa

namespace Go.Proofs.Ytlhjbllfcbojmaa
open Go Go.RowKit

theorem info_int : (Try.prog.info? 3).map (fun i => (i.zero, i.size, i.bytes)) = some (some (.int .i64 0), 1, 8) := by kernel_rfl
theorem el_int : ElemOk Try.prog 25 3 1 8 := ElemOk.mk' (by decide) Try.underlying25 info_int rfl
/-- A dealing that is not as long as it should be. -/
def badB (p : Par) (d : Int × List (List Int)) : Bool := !((d.2.length : Int) == secretsI p) || d.2.any (shortB p)
/-- Two lists built side by side: numbers, and lists of lists that lay there ahead. -/
structure Two (base : Nat) (wx : World) (v6 v7 : Value) (xs : List Int) (cs : List (List (List Int))) : Prop where
  fst : Acc encI base 3 (fun g => base ≤ g ∧ some g ≠ v7.ownBlock) wx v6 xs
  snd : Acc (encS (encS encU)) base 34 (fun g => g < base ∨ some g ≠ v6.ownBlock) wx v7 cs
theorem Two.kept {base : Nat} {wx w' : World} {v6 v7 : Value} {xs : List Int} {cs : List (List (List Int))} (h : Two base wx v6 v7 xs cs) (hg : wx.grownBy w' none) : Two base w' v6 v7 xs cs := ⟨h.fst.kept hg, h.snd.kept hg⟩
theorem Two.one {base : Nat} {wx w' : World} {v6 v7 v6' : Value} {xs xs' : List Int} {cs : List (List (List Int))} (h : Two base wx v6 v7 xs cs) (ha : Acc encI base 3 (fun g => base ≤ g ∧ some g ≠ v7.ownBlock) w' v6' xs') (hg : wx.grownBy w' v6.ownBlock) (hm : Moved wx v6 v6') : Two base w' v6' v7 xs' cs := by
  refine ⟨ha, ?_⟩
  have h1 : Acc (encS (encS encU)) base 34 (fun g => (g < base ∨ some g ≠ v6'.ownBlock) ∧ some g ≠ v6.ownBlock) wx v7 cs := h.snd.more fun g hg hx => by
    rcases hx with hx | hx
    · exact ⟨.inl hx, fun e => by have := (h.fst.lt g e.symm).1; omega⟩
    · exact ⟨.inr fun e => hm.ne hg (fun e' => hx e'.symm) e.symm, hx⟩
  exact (h1.keep hg fun g hx => hx.2).more fun g _ hx => hx.1
theorem Two.two {base : Nat} {wx w' : World} {v6 v7 v7' : Value} {xs : List Int} {cs cs' : List (List (List Int))} (h : Two base wx v6 v7 xs cs) (ha : Acc (encS (encS encU)) base 34 (fun g => g < base ∨ some g ≠ v6.ownBlock) w' v7' cs') (hg : wx.grownBy w' v7.ownBlock) (hm : Moved wx v7 v7') : Two base w' v6 v7' xs cs' := by
  refine ⟨?_, ha⟩
  have h1 : Acc encI base 3 (fun g => (base ≤ g ∧ some g ≠ v7'.ownBlock) ∧ some g ≠ v7.ownBlock) wx v6 xs := h.fst.more fun g hg hx => ⟨⟨hx.1, fun e => hm.ne hg (fun e' => hx.2 e'.symm) e.symm⟩, hx.2⟩
  exact (h1.keep hg fun g hx => hx.2).more fun g _ hx => hx.1
theorem Two.lt6 {base : Nat} {wx : World} {v6 v7 : Value} {xs : List Int} {cs : List (List (List Int))} (h : Two base wx v6 v7 xs cs) : ∀ g, wx.heap.size ≤ g → g < base ∨ some g ≠ v6.ownBlock := fun g hg => .inr fun e => by have := (h.fst.lt g e.symm).2; omega
theorem Two.lt7 {base : Nat} {wx : World} {v6 v7 : Value} {xs : List Int} {cs : List (List (List Int))} (h : Two base wx v6 v7 xs cs) (hb : base ≤ wx.heap.size) : ∀ g, wx.heap.size ≤ g → base ≤ g ∧ some g ≠ v7.ownBlock := fun g hg => ⟨by omega, fun e => by have := (h.snd.lt g e.symm).2; omega⟩
theorem Two.hZ {base : Nat} {wx : World} {v6 v7 : Value} {xs : List Int} {cs : List (List (List Int))} (h : Two base wx v6 v7 xs cs) {w' : World} : ∀ (c : List Value) (y : List (List Int)), (encS (encS encU)).rep (fun g => g < base) w' c y → (encS (encS encU)).rep (fun g => (g < base ∨ some g ≠ v6.ownBlock) ∧ some g ≠ v7.ownBlock) w' c y := fun c y hr => (encS (encS encU)).more hr fun g _ hx => ⟨.inl hx, fun e => by have := (h.snd.lt g e.symm).1; omega⟩
/-- The first j dealings are as long as they should be. -/
def OkTo (p : Par) (deals : List (Int × List (List Int))) (j : Nat) : Prop := ∀ i (h : i < deals.length), i < j → badB p deals[i] = false
theorem OkTo.all {p : Par} {deals : List (Int × List (List Int))} (h : OkTo p deals deals.length) : ∀ d ∈ deals, badB p d = false := fun d hd => by
  obtain ⟨i, hi, rfl⟩ := List.getElem_of_mem hd
  exact h i hi hi
theorem grown_two {w : World} {a b : Obj} : w.grownBy ((w.alloc a).alloc b) none := (World.grownBy_alloc w _ none).trans (World.grownBy_alloc _ _ none)
theorem Bk.one {w : World} {b : Nat} {t : TypeId} {u : Value} (h : Bk w b t #[u]) : ∀ j v, [u][j]? = some v → w.cell? ⟨b, j, none⟩ = some v := fun j v hv => by rw [h.cell j]; simpa using hv
section
variable {α : Type} {P : Program} {E : Enc α} {base : Nat} {e : TypeId} {X : Nat → Prop} {w : World} {v : Value} {xs : List α}
/-- append(out, y): the thing y lies in a block that is known. -/
theorem pushAt_core {cs : List Value} {y : α} {t : TypeId} {bytes b c : Nat} (hE : ElemOk P t e E.size bytes) (hacc : Acc E base e X w v xs) (hrep : E.rep (fun g => X g ∧ some g ≠ v.ownBlock) w cs y) (hcell : ∀ j u, cs[j]? = some u → w.cell? ⟨b, j, none⟩ = some u)
    (hlen : (xs.length + 1) * bytes ≤ 140737488355328) (hb : base ≤ w.heap.size) (hN : ∀ g, w.heap.size ≤ g → X g)
    {o : Oper} {a : Act} {K : Act → World → Prop} {Q : Exit → Act → World → Prop} (s x : Operand)
    (ho : o.op = .call { callee := .builtin .append, args := #[s, x], argTypes := #[t, t] }) (hs : a.eval s = v) (hx : a.eval x = .slice (some ⟨b, 0, none⟩) 1 c)
    (h : ∀ v' w', Acc E base e X w' v' (xs ++ [y]) → w.grownBy w' v.ownBlock → Moved w v v' → K (a.put o.dst v') w') : o.wp P a w K Q := by
  obtain ⟨_, css, h1, _, h3⟩ := id hacc
  have hcl := E.len hrep
  refine wp_app s x t ho (size := E.size) hE E.pos hs h3 (some ⟨b, 0, none⟩) 1 c cs hx (by rw [hcl, Nat.one_mul]) (by simp) ?_ (E.ones hrep) hlen hb ?_
  · intro ad e' j u hu
    injection e' with e'
    subst e'
    rw [← hcell j u hu]
    unfold Addr.add
    split
    · rename_i h0
      have : j = 0 := by simpa using h0
      subst this
      rfl
    · simp
  · intro v' w' hown hg hat
    have hat' : Moved w v v' := hat.imp id fun e => ⟨_, Nat.le_refl _, e⟩
    refine h v' w' (hacc.app (cs2 := [cs]) (ys := [y]) rfl (fun i hi hi' => ?_) (fun css' hc' => ?_) hg hat' hN) hg hat'
    · have : i = 0 := by simp at hi; omega
      subst this
      exact hrep
    · have e1 : css' = css.flatten := own_same hc' h3
      rw [e1]
      simpa using hown
theorem step_pushAt {cs : List Value} {y : α} {t : TypeId} {bytes b c : Nat} {ops : Array Oper} {o : Oper} {a : Act} {K : Act → World → Prop} {Q : Exit → Act → World → Prop} {F : Prop} (hgd : o.guard = none) (s x : Operand)
    (ho : o.op = .call { callee := .builtin .append, args := #[s, x], argTypes := #[t, t] }) (hE : ElemOk P t e E.size bytes) (hacc : Acc E base e X w v xs) (hs : a.eval s = v) (hx : a.eval x = .slice (some ⟨b, 0, none⟩) 1 c) (hrep : E.rep (fun g => X g ∧ some g ≠ v.ownBlock) w cs y) (hcell : ∀ j u, cs[j]? = some u → w.cell? ⟨b, j, none⟩ = some u)
    (hlen : (xs.length + 1) * bytes ≤ 140737488355328) (hb : base ≤ w.heap.size) (hN : ∀ g, w.heap.size ≤ g → X g)
    (h : ∀ v' w', Acc E base e X w' v' (xs ++ [y]) → w.grownBy w' v.ownBlock → Moved w v v' → K (a.put o.dst v') w') : if Region.wanted o (yielded ops a.tmps) = true then Oper.wp P o a w K Q else F := by
  have hw : Region.wanted o (yielded ops a.tmps) = true := by simp [Region.wanted, hgd]
  rw [if_pos hw]
  exact pushAt_core hE hacc hrep hcell hlen hb hN s x ho hs hx h
end
end Go.Proofs.Ytlhjbllfcbojmaa

namespace Go.Proofs.Ytlhjbllfcbojmaa
open Go Go.RowKit Go.Shelf

attribute [local go_sem] Oper.semAt_some
theorem Sl.cap {α : Type} {E : Enc α} {X : Nat → Prop} {w : World} {A : Option Addr} {n c : Nat} {xs : List α} (h : Sl E X w (.slice A n c) xs) (c' : Nat) (h1 : n ≤ c') (h2 : c' ≤ 9223372036854775807) : Sl E X w (.slice A n c') xs := by
  obtain ⟨A', c0, e, _, _, h3⟩ := h
  injection e with e1 e2 _
  subst e1 e2
  exact ⟨_, c', rfl, h1, h2, h3⟩
set_option maxHeartbeats 400000 in
theorem chunk_any (A : Option Addr) (m c n : Nat) (hn : 1 ≤ n) (w : World) :
    Calls Try.prog 44 #[.slice A m c, .int .i64 n] w fun e w' => e = .returned (.func (.func 59) #[] #[.pointer (some ⟨w.heap.size, 0, none⟩), .pointer (some ⟨w.heap.size + 1, 0, none⟩)]) ∧ w' = (w.alloc (.cells #[.slice A m c] 28)).alloc (.cells #[.int .i64 n] 3) := by
  have h1 : decide ((n : Int) < 1) = false := by simp; omega
  clear hn
  go_enter Try.func44, Try.ntmps44
  go_wp2
  go_ret
  exact ⟨rfl, rfl⟩
/-- A piece as it is handed over. -/
abbrev CK (X : Nat → Prop) (w₀ : World) (l : List Int) (n : Nat) := { x : (Option Addr × Nat) × List Int // Sl encU X w₀ (.slice x.1.1 n x.1.2) x.2 ∧ x.2.length = n ∧ ∀ y ∈ x.2, y ∈ l }
set_option maxRecDepth 100000 in
set_option maxHeartbeats 2000000 in
theorem chunk_in (n : Nat) (hn : 1 ≤ n) (lo Ba Bb : Nat) (va : Value) (l : List Int) (m k : Nat) (hm : 1 ≤ m) (hlen : l.length = k * m) (X : Nat → Prop) (w₀ : World) (J Jx : List (CK X w₀ l m) → World → Prop)
    (hY : ∀ pre x W, J pre W → pre.length < k → YieldAt Fence.wide (n - 1) Try.prog lo #[.slice x.1.1.1 m x.1.1.2] W fun e W' =>
      (e = .returned (.bool true) ∧ J (pre ++ [x]) W' ∧ KpAB w₀.heap.size Ba Bb W W') ∨ (e = .returned (.bool false) ∧ Jx (pre ++ [x]) W'))
    (W : World) (hJ : AbidesFrom W.heap.size J) (hW0 : Below w₀.heap.size w₀ W) (hBa : Boxed W Ba 28 va) (hBb : Boxed W Bb 3 (.int .i64 m)) (hA : Sl encU X w₀ va l) (h0 : J [] W) :
    CallsIn Fence.wide n Try.prog 59 #[.func (.yield lo) #[] #[], .pointer (some ⟨Ba, 0, none⟩), .pointer (some ⟨Bb, 0, none⟩)] W fun e W' => (∃ v, e = .returned v) ∧
      ((∃ ys, ys.map (fun y => y.1.2) = chk m l k ∧ J ys W') ∨ (∃ pre, True ∧ Jx pre W')) := by
  refine callsIn_of_wp Try.func59 rfl trivial ?_ rfl
  simp only [Try.ntmps59, List.size_toArray, List.length_cons, List.length_nil, Nat.reduceAdd, Nat.reduceSub, Array.replicate_succ, Array.replicate_zero, List.push_toArray, List.append_toArray, List.nil_append, List.cons_append]
  obtain ⟨A1, c1, rfl, hc1, hc2⟩ := hA.form
  have HA := Lib.hid hA
  have HBA := Lib.hid hBa
  have HBB := Lib.hid hBb
  have HH0 := Lib.hid h0
  have HLEN := Lib.hid hlen
  clear hA hBa hBb h0 hlen
  obtain ⟨L, hL⟩ : ∃ L, L = l.length := ⟨_, rfl⟩
  have HL := Lib.hid hL
  rw [← hL] at HBA hc1
  clear hL
  gi_wp2
  gi_loopw [4] (fun s4 wr => ∃ (r i0 : Nat) (pre : List (CK X w₀ l m)), r ≤ k ∧ i0 ≤ L ∧ s4 = .int .i64 i0 ∧ Hid (i0 = r * m ∧ pre.map (fun y => y.1.2) = chk m l r ∧ J pre wr ∧ KpAB w₀.heap.size Ba Bb W wr)) (fun s4 _ => L - (intOf s4).toNat)
  case atStart => exact ⟨0, 0, [], by omega, by omega, rfl, Lib.hid ⟨by omega, rfl, HH0.out, KpAB.refl _ _ _ _⟩⟩
  case round =>
    obtain ⟨r, i0, pre, hr, hi0, rfl, HX⟩ := hrel
    have hca : wr.cell? ⟨Ba, 0, none⟩ = some (.slice A1 L c1) := (World.cell?_of_block (w := W) HX.out.2.2.2.2.1).trans HBA.out.cell
    have hcb : wr.cell? ⟨Bb, 0, none⟩ = some (.int .i64 m) := (World.cell?_of_block (w := W) HX.out.2.2.2.2.2).trans HBB.out.cell
    have hBaLt : w₀.heap.size ≤ wr.heap.size ∧ Ba < wr.heap.size ∧ Bb < wr.heap.size := ⟨(hW0.trans HX.out.2.2.2.1).size, Nat.lt_of_lt_of_le HBA.out.lt HX.out.2.2.2.1.size, Nat.lt_of_lt_of_le HBB.out.lt HX.out.2.2.2.1.size⟩
    by_cases hlt : r < k
    · have hmm : r * m + m ≤ k * m := by
        have h1 := Nat.mul_le_mul_right m (show r + 1 ≤ k from hlt)
        rw [Nat.add_mul] at h1
        omega
      have him : i0 + m ≤ L := by rw [HX.out.1, HL.out, HLEN.out]; exact hmm
      have hil : i0 < L := by omega
      have hI : (i0 : Int) < (L : Int) := by omega
      have hIM : (i0 : Int) + (m : Int) ≤ (L : Int) := by omega
      have hIC : (i0 : Int) + (m : Int) ≤ (c1 : Int) := by omega
      have hIc : (i0 : Int) < (c1 : Int) := by omega
      have hm0 : (0 : Int) < (m : Int) := by omega
      have hcne : ¬ c1 = i0 := by omega
      have hmin : min (m : Int) ((L : Int) - (i0 : Int)) = (m : Int) := by omega
      have hnat : ((L - i0 : Nat) : Int) = (L : Int) - (i0 : Int) := by omega
      have hmin2 : min (m : Int) ((L - i0 : Nat) : Int) = (m : Int) := by omega
      obtain ⟨g, o, rfl, _, _⟩ := HA.out.addr (by rw [← HL.out]; omega)
      have hpl : pre.length = r := by have := congrArg List.length HX.out.2.1; simpa [chk_length] using this
      have hJk : J pre wr.drew := hJ _ wr wr.drew none HX.out.2.2.1 (grownBy_drewN (World.grownBy.refl wr none) 1) (by simp)
      have hSP : Sl encU X w₀ (.slice (some ⟨g, o + i0, none⟩) m m) ((l.drop (r * m)).take m) := by
        have h1 := HA.out.drop i0 (by rw [← HL.out]; omega)
        rw [show encU.size = 1 from rfl, Nat.mul_one, HX.out.1] at h1
        have h2 := h1.take m (by rw [List.length_drop, ← HL.out]; have := HX.out.1; omega)
        rw [HX.out.1]
        exact h2.cap m (Nat.le_refl _) (by omega)
      have hpm : ((l.drop (r * m)).take m).length = m := by rw [List.length_take, List.length_drop, ← HL.out]; have := HX.out.1; omega
      have HCA : Hid (∀ w', wr.drew.grownBy w' none → w'.cell? ⟨Ba, 0, none⟩ = some (.slice (some ⟨g, o, none⟩) L c1)) := Lib.hid (fun w' h => cell_kept hca ((grown_drewN' wr 1).trans h) (by simp))
      have HCB : Hid (∀ w', wr.drew.grownBy w' none → w'.cell? ⟨Bb, 0, none⟩ = some (.int .i64 m)) := Lib.hid (fun w' h => cell_kept hcb ((grown_drewN' wr 1).trans h) (by simp))
      have HI1 : Hid (i0 + m = (r + 1) * m) := Lib.hid (by rw [HX.out.1, Nat.add_mul, Nat.one_mul])
      have HPX := Lib.hid HX.out.2.1
      have HKW := Lib.hid HX.out.2.2.2
      have HJK := Lib.hid hJk
      have HLA := Lib.hid hBaLt
      clear HX hJk hmm
      gi_wp2
      refine wpIn_region_mono 6 (by kernel_rfl) (by kernel_rfl) (by kernel_rfl) ?_
      -- op 0 (slot 13): load
      refine MonoR.step (Pv.eq (.int .i64 (m : Int))) [] (by kernel_rfl) (fun w' hw' => ?_) ?_
      · refine ask_do rfl fun K hK => ?_
        have hd := HCA.out w' hw'
        have he := HCB.out w' hw'
        go_simp
        exact hK _ _ rfl rfl (World.grownBy.refl _ none)
      -- op 1 (slot 14): load
      refine MonoR.step (Pv.eq (.slice (some ⟨g, o, none⟩) L c1)) [] (by kernel_rfl) (fun w' hw' => ?_) ?_
      · refine ask_do rfl fun K hK => ?_
        have hd := HCA.out w' hw'
        have he := HCB.out w' hw'
        go_simp
        exact hK _ _ rfl rfl (World.grownBy.refl _ none)
      -- op 2 (slot 15): move
      refine MonoR.step (Pv.eq (.int .i64 (i0 : Int))) [] (by kernel_rfl) (fun w' hw' => ?_) ?_
      · refine ask_do rfl fun K hK => ?_
        go_simp
        exact hK _ _ rfl rfl (World.grownBy.refl _ none)
      -- op 3 (slot 16): slice
      refine MonoR.step (Pv.eq (.slice (some ⟨g, o + i0, none⟩) (L - i0) (c1 - i0))) [(1, 14), (2, 15)] (by kernel_rfl) (fun w' hw' => ?_) ?_
      · rintro _ rfl
        rintro _ rfl
        refine ask_do rfl fun K hK => ?_
        go_simp
        exact hK _ _ rfl rfl (World.grownBy.refl _ none)
      -- op 4 (slot 17): call
      refine MonoR.step (Pv.eq (.int .i64 ((L : Int) - (i0 : Int)))) [(3, 16)] (by kernel_rfl) (fun w' hw' => ?_) ?_
      · rintro _ rfl
        refine ask_do rfl fun K hK => ?_
        go_simp
        exact hK _ _ rfl rfl (World.grownBy.refl _ none)
      -- op 5 (slot 18): call
      refine MonoR.step (Pv.eq (.int .i64 (m : Int))) [(0, 13), (4, 17)] (by kernel_rfl) (fun w' hw' => ?_) ?_
      · rintro _ rfl
        rintro _ rfl
        refine ask_do rfl fun K hK => ?_
        go_simp
        exact hK _ _ rfl rfl (World.grownBy.refl _ none)
      
      intro w3 hw3
      intro y0 k0 y1 k1 y2 k2 y3 k3 y4 k4 y5 k5
      show wpListIn Fence.wide n Try.prog _ _ _ _ w3
      simp only [Act.put, List.setIfInBounds_toArray, List.set_cons_zero, List.set_cons_succ]
      have k5 : y5 = .int .i64 (m : Int) := k5
      subst k5
      have HW3 := Lib.hid hw3
      clear hw3 k0 k1 k2 k3 k4
      have hJ3 : J pre w3 := hJ _ wr.drew w3 none HJK.out HW3.out (by simp)
      have HK3 : Hid (KpAB w₀.heap.size Ba Bb wr w3) := Lib.hid (by
        have hg := (grown_drewN' wr 1).trans HW3.out
        exact ⟨(below_grown hg).mono HLA.out.1, hg.block _ HLA.out.2.1 (by simp), hg.block _ HLA.out.2.2 (by simp)⟩)
      have hcc := HCA.out w3 HW3.out
      obtain ⟨fn, tmps, assign, body, hy, hR⟩ := hY _ (⟨((some ⟨g, o + i0, none⟩, m), (l.drop (r * m)).take m), hSP, hpm, fun y hy => List.mem_of_mem_drop (List.mem_of_mem_take hy)⟩ : CK X w₀ l m) w3 hJ3 (by rw [hpl]; exact hlt)
      dsimp only at hy
      have HPN : Hid ((pre ++ [(⟨((some ⟨g, o + i0, none⟩, m), (l.drop (r * m)).take m), hSP, hpm, fun y hy => List.mem_of_mem_drop (List.mem_of_mem_take hy)⟩ : CK X w₀ l m)]).map (fun y => y.1.2) = chk m l (r + 1)) := Lib.hid (by rw [List.map_append, HPX.out, chk_succ]; rfl)
      have HR := Lib.hid (hR.mono (R' := fun e W' => ∃ bb : Bool, e = .returned (.bool bb) ∧ Hid ((bb = true ∧ J (pre ++ [(⟨((some ⟨g, o + i0, none⟩, m), (l.drop (r * m)).take m), hSP, hpm, fun y hy => List.mem_of_mem_drop (List.mem_of_mem_take hy)⟩ : CK X w₀ l m)]) W' ∧ KpAB w₀.heap.size Ba Bb w3 W') ∨ (bb = false ∧ Jx (pre ++ [(⟨((some ⟨g, o + i0, none⟩, m), (l.drop (r * m)).take m), hSP, hpm, fun y hy => List.mem_of_mem_drop (List.mem_of_mem_take hy)⟩ : CK X w₀ l m)]) W'))) (fun e W' h => by
        rcases h with ⟨h1, h2, h3⟩ | ⟨h1, h2⟩
        · exact ⟨true, h1, Lib.hid (.inl ⟨rfl, h2, h3⟩)⟩
        · exact ⟨false, h1, Lib.hid (.inr ⟨rfl, h2⟩)⟩))
      clear hR hJ3
      gi_wp2
      refine HR.out.mono ?_
      rintro e W' ⟨bb, rfl, hout⟩
      cases bb with
      | true =>
        rcases hout.out with ⟨_, hJ2, hK2⟩ | ⟨h, _⟩
        · have hcb2 : W'.cell? ⟨Bb, 0, none⟩ = some (.int .i64 m) := (World.cell?_of_block (w := w3) hK2.2.2).trans (HCB.out w3 HW3.out)
          gi_wp2
          exact ⟨⟨r + 1, i0 + m, _, by omega, by omega, by go_num, Lib.hid ⟨HI1.out, HPN.out, hJ2, HKW.out.trans (HK3.out.trans hK2)⟩⟩, by simp [intOf]; omega⟩
        · cases h
      | false =>
        rcases hout.out with ⟨h, _⟩ | ⟨_, hJx2⟩
        · cases h
        · gi_wp2
          refine bodyPost_ret (results_none rfl _ _ _) rfl ?_
          exact ⟨⟨_, rfl⟩, .inr ⟨_, trivial, hJx2⟩⟩
    · obtain rfl : r = k := by omega
      have hn2 : ¬ (i0 : Int) < (L : Int) := by have h1 := HX.out.1; have h2 := HLEN.out; have h3 := HL.out; omega
      gi_wp2
      go_end0
      exact ⟨⟨_, rfl⟩, .inl ⟨pre, HX.out.2.1, HX.out.2.2.1⟩⟩
theorem chunk_stops (n : Nat) (hn : 1 ≤ n) (Ba Bb : Nat) (va : Value) (l : List Int) (m k : Nat) (hm : 1 ≤ m) (hlen : l.length = k * m) (X : Nat → Prop) (w₀ w1 : World) (h01 : Below w₀.heap.size w₀ w1) (hBa : Boxed w1 Ba 28 va) (hBb : Boxed w1 Bb 3 (.int .i64 m)) (hA : Sl encU X w₀ va l) :
    SeqStopsK Fence.wide n Try.prog 59 #[.pointer (some ⟨Ba, 0, none⟩), .pointer (some ⟨Bb, 0, none⟩)] (fun x : CK X w₀ l m => #[.slice x.1.1.1 m x.1.1.2]) (KpAB w₀.heap.size Ba Bb) (fun ys => ys.map (fun y => y.1.2) = chk m l k) (fun _ => True) k w1 := fun lo J Jx W hW hJ _ hY h0 =>
  chunk_in n hn lo Ba Bb va l m k hm hlen X w₀ J Jx hY W hJ (h01.trans (hW.mono h01.size)) ((hW.5 Ba hBa.lt).trans hBa) ((hW.5 Bb hBb.lt).trans hBb) hA h0
end Go.Proofs.Ytlhjbllfcbojmaa

namespace Go.Proofs.Ytlhjbllfcbojmaa
open Go

/-- Where the worlds stand when some late operations are over, these having told values; and what the k-th of them does to what lay there. -/
structure Lt where
  C : List Value → World → Prop
  R : Nat → World → World → Prop
  g : ∀ {vs w w'}, C vs w → w.grownBy w' none → C vs w'
/-- What is known of a value, and stands: as long as nothing is written, and through the late operations from the fr-th on. -/
structure Qv (L : Lt) where
  p : List Value → Value → World → Prop
  fr : Nat
  st : ∀ {vs v w w'}, p vs v w → w.grownBy w' none → p vs v w'
  sr : ∀ {vs u v w w'}, fr ≤ vs.length → L.C vs w → L.R vs.length w w' → p vs v w → p (vs ++ [u]) v w'
def Qv.any {L : Lt} : Qv L := ⟨fun _ _ _ => True, 0, fun _ _ => trivial, fun _ _ _ _ => trivial⟩
def Qv.eq {L : Lt} (u : Value) : Qv L := ⟨fun _ v _ => v = u, 0, fun h _ => h, fun _ _ _ h => h⟩
/-- What the q-th late operation has told. -/
def Qv.slot {L : Lt} (q : Nat) : Qv L := ⟨fun vs v _ => vs[q]? = some v, q + 1, fun h _ => h, fun _ _ _ h => by
  have := (List.getElem?_eq_some_iff.1 h).1
  rw [List.getElem?_append_left this]
  exact h⟩
section
variable {L : Lt} {late : List Nat} {P : Program} {ops : Array Oper} {Q : Exit → Act → World → Prop} {n : Nat} {a0 : Act} {w0 : World}

def ToldL (T : Value → World → Prop) (dst : Option Tmp) (ds : List Deferred) : Exit → Act → World → Prop := fun e a' w' => e = .normal ∧ a'.defers = ds ∧ T (match dst with | some d => a'.eval (.tmp d) | none => undef) w'
def Ask' (P : Program) (ops : Array Oper) (vs : List Value) (Vs : List (Qv L)) (Qt : Exit → Act → World → Prop) (o : Oper) (w : World) : List (Nat × Tmp) → Act → Prop
  | [], a => wpList P ops Qt [o] a w
  | (j, d) :: js, a => ∀ x, (Vs.getD j Qv.any).p vs x w → Ask' P ops vs Vs Qt o w js (a.put (some d) x)
/-- What is asked of one operation. -/
def AskL (L : Lt) (late : List Nat) (P : Program) (ops : Array Oper) (Vs : List (Qv L)) (ds : List Deferred) (i : Nat) (V : Qv L) (o : Oper) (js : List (Nat × Tmp)) (a0 : Act) : Prop :=
  (late.contains i = false ∧ V.fr = 0 ∧ ∀ vs w, L.C vs w → Ask' P ops vs Vs (ToldL (fun v w' => V.p vs v w' ∧ w.grownBy w' none) o.dst ds) o w js a0) ∨
  (∃ q, late[q]? = some i ∧ V = Qv.slot q ∧ ∀ vs w, vs.length = q → L.C vs w → Ask' P ops vs Vs (ToldL (fun v w' => L.R q w w' ∧ L.C (vs ++ [v]) w') o.dst ds) o w js a0)
def LateR (L : Lt) (late : List Nat) (P : Program) (ops : Array Oper) (n : Nat) (a0 : Act) (F : List (Qv L) → Prop) : Nat → List (Qv L) → List Oper → Prop
  | 0, Rs, _ => F Rs.reverse
  | _ + 1, _, [] => False
  | k + 1, Rs, o :: os => ∃ (V : Qv L) (js : List (Nat × Tmp)), (pairB ops Rs.length js && lookB ops n Rs.length js) = true ∧ AskL L late P ops Rs.reverse a0.defers Rs.length V o js a0 ∧ LateR L late P ops n a0 F k (V :: Rs) os
theorem LateR.mono {F : List (Qv L) → Prop} {k : Nat} {Rs : List (Qv L)} {o : Oper} {os : List Oper} (V : Qv L) (js : List (Nat × Tmp)) (hc : (pairB ops Rs.length js && lookB ops n Rs.length js) = true) (hl : late.contains Rs.length = false) (hf : V.fr = 0) (hA : ∀ vs w, L.C vs w → Ask' P ops vs Rs.reverse (ToldL (fun v w' => V.p vs v w' ∧ w.grownBy w' none) o.dst a0.defers) o w js a0) (h : LateR L late P ops n a0 F k (V :: Rs) os) : LateR L late P ops n a0 F (k + 1) Rs (o :: os) := ⟨V, js, hc, .inl ⟨hl, hf, hA⟩, h⟩
theorem LateR.turn {F : List (Qv L) → Prop} {k : Nat} {Rs : List (Qv L)} {o : Oper} {os : List Oper} (q : Nat) (js : List (Nat × Tmp)) (hc : (pairB ops Rs.length js && lookB ops n Rs.length js) = true) (hl : late[q]? = some Rs.length) (hA : ∀ vs w, vs.length = q → L.C vs w → Ask' P ops vs Rs.reverse (ToldL (fun v w' => L.R q w w' ∧ L.C (vs ++ [v]) w') o.dst a0.defers) o w js a0) (h : LateR L late P ops n a0 F k (Qv.slot q :: Rs) os) : LateR L late P ops n a0 F (k + 1) Rs (o :: os) := ⟨Qv.slot q, js, hc, .inr ⟨q, hl, rfl, hA⟩, h⟩
theorem LateR.out {F : List (Qv L) → Prop} : ∀ {k : Nat} {Rs : List (Qv L)} {os : List Oper}, LateR L late P ops n a0 F k Rs os → k ≤ os.length ∧ ∃ Ws : List (Qv L), Ws.length = k ∧ F (Rs.reverse ++ Ws) ∧ ∀ m o, m < k → os[m]? = some o → ∃ V js, Ws[m]? = some V ∧ (pairB ops (Rs.length + m) js && lookB ops n (Rs.length + m) js) = true ∧ AskL L late P ops ((Rs.reverse ++ Ws).take (Rs.length + m)) a0.defers (Rs.length + m) V o js a0
  | 0, Rs, os, h => ⟨Nat.zero_le _, [], rfl, by rw [List.append_nil]; exact h, fun m o hm => by omega⟩
  | _ + 1, _, [], h => h.elim
  | k + 1, Rs, o :: os, ⟨V, js, hb, hA, hM⟩ => by
    obtain ⟨hkl, Ws, hl, hF, hk⟩ := LateR.out hM
    refine ⟨by simpa using hkl, V :: Ws, by simp [hl], by simpa using hF, fun m o' hm ho => ?_⟩
    cases m with
    | zero =>
      obtain rfl : o = o' := by simpa using ho
      refine ⟨V, js, rfl, hb, ?_⟩
      have : (Rs.reverse ++ V :: Ws).take (Rs.length + 0) = Rs.reverse := by
        rw [Nat.add_zero, ← List.length_reverse]
        exact List.take_left
      rw [this]
      exact hA
    | succ m =>
      obtain ⟨V', js', h1, h2, h3⟩ := hk m o' (by omega) (by simpa using ho)
      refine ⟨V', js', by simpa using h1, ?_, ?_⟩
      · simpa [Nat.add_assoc, Nat.add_comm 1 m] using h2
      · simpa [Nat.add_assoc, Nat.add_comm 1 m] using h3
def FinL' (G : Act → World → Prop) (vs : List Value) (w : World) : List (Qv L) → List Oper → Act → Prop
  | V :: Vs, o :: os, a => ∀ x, V.p vs x w → FinL' G vs w Vs os (a.put o.dst x)
  | _, _, a => G a w
theorem FinL'.all {G : Act → World → Prop} {vs : List Value} {w : World} {b : Act} : ∀ {Vs : List (Qv L)} {os : List Oper} {a : Act}, Vs.length = os.length → (∀ (k : Nat) (V : Qv L) (o : Oper), Vs[k]? = some V → os[k]? = some o → V.p vs (match o.dst with | some d => b.eval (.tmp d) | none => undef) w) → FinL' G vs w Vs os a → G (onto b (os.map (·.dst)) a) w
  | [], [], _, _, _, h => h
  | V :: Vs, o :: os, a, hl, hx, h => FinL'.all (Vs := Vs) (os := os) (by simpa using hl) (fun k V o hv ho => hx (k + 1) V o (by simpa using hv) (by simpa using ho)) (h _ (hx 0 V o rfl rfl))
  | [], _ :: _, _, hl, _, _ => by simp at hl
  | _ :: _, [], _, hl, _, _ => by simp at hl
theorem Ask'.all {vs : List Value} {Vs : List (Qv L)} {Qt : Exit → Act → World → Prop} {o : Oper} {w : World} {b : Act} : ∀ {js : List (Nat × Tmp)} {a : Act}, (∀ x : Nat × Tmp, x ∈ js → (Vs.getD x.1 Qv.any).p vs (b.eval (.tmp x.2)) w) → Ask' P ops vs Vs Qt o w js a → wpList P ops Qt [o] (onto b (js.map fun x => some x.2) a) w
  | [], _, _, h => h
  | (j, d) :: js, a, hx, h => Ask'.all (js := js) (fun x hm => hx x (List.mem_cons_of_mem _ hm)) (h _ (hx (j, d) (by simp)))
/-- Which late operations are over: the first k. -/
def Cls (L : Lt) (late : List Nat) (vs : List Value) (D : Array Bool) (w : World) : Prop := vs.length ≤ late.length ∧ L.C vs w ∧ ∀ q i, late[q]? = some i → (D.getD i false = true ↔ q < vs.length)
structure LInv (L : Lt) (late : List Nat) (ops : Array Oper) (n : Nat) (a0 : Act) (Vs : List (Qv L)) (vs : List Value) (D : Array Bool) (a : Act) (w : World) : Prop where
  head : HeadInv .any ops n D
  cls : Cls L late vs D w
  tsize : a.tmps.size = a0.tmps.size
  defers : a.defers = a0.defers
  rest : ∀ t, (∀ j, j < n → D.getD j false = true → dstAt ops j ≠ some t) → a.tmps[t]? = a0.tmps[t]?
  known : ∀ j V, D.getD j false = true → Vs[j]? = some V → V.p vs (valOf (dstAt ops j) a) w
theorem toldL_letsOut {T : Value → World → Prop} {dst : Option Tmp} {ds : List Deferred} : ¬ LetsOut (ToldL T dst ds) := by
  rintro ⟨a, w', e, _⟩
  cases e
def chainB (ops : Array Oper) (late : List Nat) : Bool := (List.range (late.length - 1)).all fun q => Region.waitsFor .any ops (late.getD (q + 1) 0) (late.getD q 0)
def lateB (ops : Array Oper) (n : Nat) (late : List Nat) : Bool := late.all (fun i => decide (i < n)) && decide late.Nodup && chainB ops late
theorem toldL_op {T : Value → World → Prop} {o : Oper} {a b : Act} {w : World} (hs : ∀ cs b, o.op ≠ .select cs b) (hd : ∀ d, o.dst = some d → d < a.tmps.size) (hsz : b.tmps.size = a.tmps.size) (hlook : ∀ t ∈ o.looksAt ops, b.tmps[t]? = a.tmps[t]?) {i : Nat} (hi : ops[i]? = some o)
    (hdf : b.defers = a0.defers) (h : wpList P ops (ToldL T o.dst a0.defers) [o] b w) : wpOp P ops Q i (fun a' w' => ∃ v, a' = a.put o.dst v ∧ T (match o.dst with | some _ => v | none => undef) w') a w := by
  have hex : execOp b.eval o = execOp a.eval o := execOp_congr o hs fun x hx => by
    cases x with
    | tmp t => exact eval_of _ _ _ (hlook t (List.mem_append_left _ (List.mem_filterMap.2 ⟨.tmp t, by simpa using hx, rfl⟩)))
    | _ => rfl
  have hwn : Region.wanted o (yielded ops b.tmps) = Region.wanted o (yielded ops a.tmps) := by
    unfold Region.wanted
    cases hg : o.guard with
    | none => rfl
    | some gw =>
      obtain ⟨g, want⟩ := gw
      have hy : yielded ops b.tmps g = yielded ops a.tmps g := by
        unfold yielded
        cases ht : (ops[g]?).bind (·.dst) with
        | none => rfl
        | some t => simp only [Option.bind_some, hlook t (by simp [Oper.looksAt, hg, ht])]
      simp only [hy]
  have fin : ∀ v w', ToldL T o.dst a0.defers .normal (b.put o.dst v) w' → ∃ v', a.put o.dst v = a.put o.dst v' ∧ T (match o.dst with | some _ => v' | none => undef) w' := by
    rintro v w' ⟨_, _, h1⟩
    refine ⟨v, rfl, ?_⟩
    cases hdd : o.dst with
    | none => rw [hdd] at h1; exact h1
    | some d =>
      rw [hdd] at h1
      have hlt := hd d hdd
      have : (b.put (some d) v).eval (.tmp d) = v := by simp [Act.put, Act.eval, Array.getD_eq_getD_getElem?, hsz, hlt]
      simp only [this] at h1
      exact h1
  unfold wpOp
  simp only [hi]
  simp only [wpList, hwn] at h
  split
  · rename_i hw
    rw [if_pos hw] at h
    rcases h with h | h
    · left
      unfold Oper.wp at h ⊢
      rw [hex] at h
      generalize (execOp a.eval o).run P w = r at *
      cases r with
      | ok x w' =>
        cases x with
        | value v => exact fin v w' h
        | skip => exact fin undef w' h
        | enter f args =>
          refine Calls.mono h fun e w'' he => ?_
          cases e with
          | returned u => exact fin u w'' he
          | panicked c => exact absurd he.1 (by simp)
          | outgrown => exact absurd he toldL_letsOut
        | row row args => exact Rows.mono h fun u w'' he => fin u w'' he
        | defer d =>
          obtain ⟨_, h1, _⟩ := h
          have h1 : (Act.put { b with defers := d :: b.defers } o.dst undef).defers = a0.defers := h1
          rw [put_defers, ← hdf] at h1
          exact absurd (congrArg List.length h1) (by simp)
        | _ => exact h.elim
      | halt x w' =>
        cases x with
        | panic v => exact absurd h.1 (by simp)
        | _ => exact h.elim
    · exact absurd h.2 toldL_letsOut
  · rename_i hw
    rw [if_neg hw] at h
    exact fin undef w h
theorem linv_step {L : Lt} {late : List Nat} {vs vs2 : List Value} {Vs : List (Qv L)} {D : Array Bool} {a a' : Act} {w w' : World} {i : Nat} {o : Oper} {V : Qv L} {v : Value} (inv : LInv L late ops n a0 Vs vs D a w) (hd : distB ops n a0.tmps.size = true) (hi : i ∈ Region.ready .any ops D) (hin : i < n) (ho : ops[i]? = some o) (hV : Vs[i]? = some V) (hnl : Vs.length ≤ n)
    (ha : a' = a.put o.dst v) (hv : V.p vs2 (match o.dst with | some _ => v | none => undef) w') (hg : ∀ (W : Qv L) (j : Nat), D.getD j false = true → Vs[j]? = some W → ∀ {u : Value}, W.p vs u w → W.p vs2 u w') (hcl : Cls L late vs2 (D.setIfInBounds i true) w') : LInv L late ops n a0 Vs vs2 (D.setIfInBounds i true) a' w' := by
  subst ha
  have hdi : dstAt ops i = o.dst := by simp [dstAt, ho]
  have hun : D.getD i true = false := (mem_ready.1 hi).1
  have hlt : i < D.size := by
    rcases Nat.lt_or_ge i D.size with h' | h'
    · exact h'
    · simp [Array.getElem?_eq_none h'] at hun
  refine ⟨inv.head.set hi hin, hcl, (put_size _ _ _).trans inv.tsize, (put_defers _ _ _).trans inv.defers, fun t ht => ?_, fun j W hj hW => ?_⟩
  · have h1 : o.dst ≠ some t := fun e => ht i hin (by simp [hlt]) (hdi.trans e)
    refine Eq.trans ?_ (inv.rest t fun j hj hD => ht j hj (getD_set_true hD))
    cases hdd : o.dst with
    | none => rfl
    | some d => exact put_at _ _ _ _ (fun e => h1 (by rw [hdd, e]))
  · by_cases e : i = j
    · subst e
      obtain rfl : V = W := Option.some.inj (hV.symm.trans hW)
      rw [hdi]
      cases hdd : o.dst with
      | none => rw [hdd] at hv; exact hv
      | some d =>
        rw [hdd] at hv
        have hds := list_all_range hd hin
        rw [hdi, hdd] at hds
        simp only [Bool.and_eq_true, decide_eq_true_eq] at hds
        have : (a.put (some d) v).eval (.tmp d) = v := by simp [Act.put, Act.eval, Array.getD_eq_getD_getElem?, inv.tsize, hds.1]
        show V.p vs2 ((a.put (some d) v).eval (.tmp d)) w'
        rw [this]
        exact hv
    · have hjn : j < n := by have := (List.getElem?_eq_some_iff.1 hW).1; omega
      rw [getD_set_ne false e] at hj
      have h1 := hg W j hj hW (inv.known j W hj hW)
      cases hdj : dstAt ops j with
      | none => rw [hdj] at h1; exact h1
      | some dj =>
        rw [hdj] at h1
        have h1 : W.p vs2 (a.eval (.tmp dj)) w' := h1
        show W.p vs2 ((a.put o.dst v).eval (.tmp dj)) w'
        cases hdd : o.dst with
        | none => exact h1
        | some d =>
          have hds := list_all_range hd hin
          rw [hdi, hdd] at hds
          simp only [Bool.and_eq_true, decide_eq_true_eq] at hds
          have h2 := list_all_range hds.2 hjn
          simp only [Bool.or_eq_true, beq_iff_eq, bne_iff_ne, ne_eq] at h2
          have h3 : d ≠ dj := fun e' => (h2.resolve_left (fun e2 => e e2.symm)) (by rw [hdj, e'])
          rw [eval_of _ a dj (put_at a d dj v h3)]
          exact h1
/-- The law. -/
theorem wpAny_late {l : List Oper} (n : Nat) (hB : monoB l.toArray n a0.tmps.size = true) (hBl : lateB l.toArray n late = true) (hC0 : L.C [] w0)
    (h : LateR L late P l.toArray n a0 (fun Vs => ∀ vs w, vs.length = late.length → L.C vs w → FinL' (fun a w => wpList P l.toArray Q (l.drop n) a w) vs w Vs (l.take n) a0) n [] l) : wpAny P .any l.toArray Q l.toArray.size (Array.replicate l.toArray.size false) a0 w0 := by
  simp only [monoB, Bool.and_eq_true, decide_eq_true_eq] at hB
  obtain ⟨⟨⟨⟨hsel, hn⟩, htail⟩, htopo⟩, hdist⟩ := hB
  simp only [tailB, Bool.and_eq_true] at htail
  obtain ⟨hblk, hseq⟩ := htail
  simp only [lateB, Bool.and_eq_true, decide_eq_true_eq] at hBl
  obtain ⟨⟨hlt0, hnd⟩, hch⟩ := hBl
  have hlate : ∀ i ∈ late, i < n := fun i hi => by simpa using List.all_eq_true.1 hlt0 i hi
  have hchain : ∀ q, q + 1 < late.length → ∀ i, late[q + 1]? = some i → ∀ i', late[q]? = some i' → Region.waitsFor .any l.toArray i i' = true := fun q hq i h1 i' h2 => by
    have := list_all_range hch (show q < late.length - 1 by omega)
    rw [List.getD_eq_getElem?_getD, List.getD_eq_getElem?_getD, h1, h2] at this
    exact this
  obtain ⟨_, Vs, hVl, hF, hO⟩ := LateR.out h
  rw [List.reverse_nil, List.nil_append] at hF
  simp only [List.reverse_nil, List.nil_append, List.length_nil, Nat.zero_add] at hO
  have hnl : n ≤ l.length := by simpa using hn
  have htl : (l.take n).length = n := by simp; omega
  have hVn : Vs.length = n := hVl
  have hfr : ∀ j W, Vs[j]? = some W → (late.contains j = false ∧ W.fr = 0) ∨ ∃ q, late[q]? = some j ∧ W.fr ≤ q + 1 := fun j W hW => by
    have hj : j < n := by have := (List.getElem?_eq_some_iff.1 hW).1; omega
    obtain ⟨V, js, hV, _, hask⟩ := hO j l[j] hj (List.getElem?_eq_getElem (by omega))
    obtain rfl : V = W := Option.some.inj (hV.symm.trans hW)
    rcases hask with ⟨h1, h2, _⟩ | ⟨q, h1, h2, _⟩
    · exact .inl ⟨h1, h2⟩
    · exact .inr ⟨q, h1, by rw [h2]; exact Nat.le_refl _⟩
  have hdl : (l.drop n).length = l.toArray.size - n := by simp
  have hnext : ∀ i o, i < n → l.toArray[i]? = some o → (l.take n)[i]? = some o := fun i o hi ho => by
    rw [List.getElem?_take, if_pos hi]
    simpa using ho
  have key : ∀ m vs D a w, LInv L late l.toArray n a0 Vs vs D a w → cnt D n = m → wpAny P .any l.toArray Q (m + (l.toArray.size - n)) D a w := by
    intro m
    induction m with
    | zero =>
      intro vs D a w inv hc
      have hall := cnt_zero hc
      have hD : D = Array.replicate n true ++ Array.replicate (l.toArray.size - n) false := by
        have hsz := inv.head.size
        refine Array.ext (by simp [hsz]; omega) fun i h1 h2 => ?_
        rw [Array.getElem_append]
        by_cases hi : i < n
        · have := hall i hi
          simp [h1] at this
          simp [hi, this]
        · have := inv.head.tail i (by omega) (by omega)
          simp [h1] at this
          simp [hi, this]
      have hk : ∀ (k : Nat) (V : Qv L) (o : Oper), Vs[k]? = some V → (l.take n)[k]? = some o → V.p vs (match o.dst with | some d => a.eval (.tmp d) | none => undef) w := by
        intro k V o hv ho
        have hkn : k < n := by have := (List.getElem?_eq_some_iff.1 hv).1; omega
        have h1 := inv.known k V (hall k hkn) hv
        have h2 : dstAt l.toArray k = o.dst := by
          have : l[k]? = some o := by rw [List.getElem?_take, if_pos hkn] at ho; exact ho
          simp [dstAt, this]
        rw [h2] at h1
        have h3 : (match o.dst with | some d => a.eval (.tmp d) | none => undef) = valOf o.dst a := by cases o.dst <;> rfl
        rw [h3]
        exact h1
      have hcl : vs.length = late.length ∧ L.C vs w := by
        obtain ⟨hk0, hk1, hk2⟩ := inv.cls
        rcases Nat.lt_or_ge vs.length late.length with h | h
        case inr => exact ⟨by omega, hk1⟩
        · have h1 := (hk2 vs.length late[vs.length] (List.getElem?_eq_getElem h)).1 (hall _ (hlate _ (List.getElem_mem h)))
          omega
      have hfin := FinL'.all (hVl.trans htl.symm) hk (hF vs w hcl.1 hcl.2)
      have hon : onto a ((l.take n).map (·.dst)) a0 = a := by
        refine act_ext (fun t => onto_at a t _ _ inv.tsize.symm ?_) ((onto_defers _ _ _).trans inv.defers.symm)
        by_cases ht : some t ∈ (l.take n).map (·.dst)
        · exact .inl ht
        · refine .inr (inv.rest t fun j hj _ e => ht ?_).symm
          have hjl : j < l.length := by omega
          have : l[j].dst = some t := by simpa [dstAt, hjl] using e
          exact List.mem_map.2 ⟨l[j], List.mem_iff_getElem?.2 ⟨j, by rw [List.getElem?_take, if_pos hj, List.getElem?_eq_getElem hjl]⟩, this⟩
      rw [hon] at hfin
      have := wpAny_of_seq (md := .any) (Q' := Q) (l.drop n) n D a w (fun j => by simp [List.getElem?_drop]) (by rw [hdl, hD]; exact hseq) hfin
      rw [hdl] at this
      rwa [Nat.zero_add]
    | succ m ih =>
      intro vs D a w inv hc
      have hready : ∀ i ∈ Region.ready .any l.toArray D, i < n := by
        intro i hi
        rcases Nat.lt_or_ge i n with h' | h'
        · exact h'
        · obtain ⟨hu, oi, hoi, hall⟩ := mem_ready.1 hi
          have hlt : i < l.toArray.size := (Array.getElem?_eq_some_iff.1 hoi).1
          exfalso
          obtain ⟨k, hk, hkd⟩ : ∃ k, k < n ∧ D.getD k false = false := by
            refine Classical.byContradiction fun hno => ?_
            have : ∀ k, k ≤ n → cnt D k = 0 := by
              intro k
              induction k with
              | zero => intro _; rfl
              | succ k ihk =>
                intro hk
                have h1 : D.getD k false = true := by
                  refine Classical.byContradiction fun hx => hno ⟨k, by omega, by simpa using hx⟩
                simp only [cnt, h1, ihk (by omega)]
                rfl
            rw [this n (Nat.le_refl _)] at hc
            omega
          have hb := list_all_range hblk hlt
          simp only [Bool.or_eq_true, decide_eq_true_eq] at hb
          have hb := list_all_range (hb.resolve_left (by omega)) hk
          simp only [Bool.not_eq_true'] at hb
          have hik : i ≠ k := by omega
          have : av l.toArray k n i = true := by
            have hav := fun f j hj => av_of (ops := l.toArray) inv.head.closed inv.head.size hkd f j hj
            cases hn0 : n with
            | zero => simp [av, hik]
            | succ f =>
              simp only [av, hoi, Option.map_some, Option.getD_some, Bool.and_eq_true, bne_iff_ne]
              refine ⟨hik, ?_⟩
              rw [Array.all_eq_true_iff_forall_mem]
              intro e he
              by_cases hbd : Region.binds .any e = true
              · simp [hbd, hav f e.on (hall e he hbd)]
              · simp [hbd]
          rw [hb] at this
          cases this
      have hne : Region.ready .any l.toArray D ≠ [] := by
        have hex : ∃ k, k < n ∧ D.getD k false = false ∧ ∀ j, j < k → D.getD j false = true := by
          have : ∀ k, k ≤ n → (∃ q, q < k ∧ D.getD q false = false ∧ ∀ j, j < q → D.getD j false = true) ∨ (cnt D k = 0) := by
            intro k
            induction k with
            | zero => intro _; exact .inr rfl
            | succ k ihk =>
              intro hk
              rcases ihk (by omega) with ⟨q, h1, h2⟩ | h0
              · exact .inl ⟨q, by omega, h2⟩
              · cases hq : D.getD k false with
                | true => right; simp only [cnt, hq, h0]; rfl
                | false => exact .inl ⟨k, by omega, hq, cnt_zero h0⟩
          rcases this n (Nat.le_refl _) with ⟨q, h1, h2⟩ | h0
          · exact ⟨q, h1, h2⟩
          · omega
        obtain ⟨k, hk, hkd, hbel⟩ := hex
        have hkl : k < l.toArray.size := by omega
        have ho : l.toArray[k]? = some l.toArray[k] := Array.getElem?_eq_getElem hkl
        have : k ∈ Region.ready .any l.toArray D := by
          refine mem_ready.2 ⟨getD_in (by rw [inv.head.size]; exact hkl) hkd, _, ho, fun e he hb => hbel _ ?_⟩
          have ht := list_all_range htopo hk
          simp only [ho, Option.map_some, Option.getD_some] at ht
          have := Array.all_eq_true_iff_forall_mem.1 ht e he
          simpa [hb] using this
        intro e
        rw [e] at this
        cases this
      rw [show m + 1 + (l.toArray.size - n) = (m + (l.toArray.size - n)) + 1 by omega]
      refine ⟨fun e => absurd e hne, fun i hi => ?_⟩
      have hin := hready i hi
      obtain ⟨hu, o, ho, hall⟩ := mem_ready.1 hi
      obtain ⟨V, js, hV, hchk, hask⟩ := hO i o hin (by simpa using ho)
      simp only [Bool.and_eq_true] at hchk
      obtain ⟨hpair, hlook⟩ := hchk
      have hdst : ∀ d, o.dst = some d → d < a.tmps.size := by
        intro d hd
        have := list_all_range hdist hin
        have h2 : dstAt l.toArray i = some d := by simp only [dstAt, ho]; exact hd
        rw [h2] at this
        simp only [Bool.and_eq_true, decide_eq_true_eq] at this
        rw [inv.tsize]
        exact this.1
      have hjs : ∀ x : Nat × Tmp, x ∈ js → dstAt l.toArray x.1 = some x.2 ∧ D.getD x.1 false = true ∧ x.1 < i := by
        intro x hx
        have := List.all_eq_true.1 hpair x hx
        simp only [Bool.and_eq_true, beq_iff_eq] at this
        obtain ⟨oj, hoj, e, he, hb, hon⟩ := Region.waitsFor_spec this.2
        obtain rfl : o = oj := Option.some.inj (ho.symm.trans hoj)
        have ht := list_all_range htopo hin
        simp only [ho, Option.map_some, Option.getD_some] at ht
        have ht := Array.all_eq_true_iff_forall_mem.1 ht e he
        simp only [hb, Bool.not_true, Bool.false_or, decide_eq_true_eq] at ht
        exact ⟨this.1, by rw [← hon]; exact hall e he hb, by rw [← hon]; exact ht⟩
      have hget : ∀ x : Nat × Tmp, x ∈ js → ((Vs.take i).getD x.1 Qv.any).p vs (a.eval (.tmp x.2)) w := fun x hx => by
        obtain ⟨h1, h2, h3⟩ := hjs x hx
        have hxl : x.1 < Vs.length := by omega
        have h4 : Vs[x.1]? = some Vs[x.1] := List.getElem?_eq_getElem hxl
        have h5 := inv.known x.1 _ h2 h4
        rw [h1] at h5
        have : (Vs.take i).getD x.1 Qv.any = Vs[x.1] := by
          rw [List.getD_eq_getElem?_getD, List.getElem?_take, if_pos h3, h4]
          rfl
        rw [this]
        exact h5
      obtain ⟨hk0, hk1, hk2⟩ := inv.cls
      have hlk : ∀ t ∈ o.looksAt l.toArray, (onto a (js.map fun x => some x.2) a0).tmps[t]? = a.tmps[t]? := fun t ht => by
        refine onto_at a t _ _ inv.tsize.symm ?_
        have h1 : (o.looksAt l.toArray).all (fun t => js.any (·.2 == t) || keptB l.toArray n i t) = true := by
          simpa only [lookB, ho, Option.map_some, Option.getD_some] using hlook
        have h2 := List.all_eq_true.1 h1 t ht
        simp only [Bool.or_eq_true] at h2
        rcases h2 with h2 | h2
        · left
          obtain ⟨x, hx, hxt⟩ := List.any_eq_true.1 h2
          exact List.mem_map.2 ⟨x, hx, by rw [beq_iff_eq.1 hxt]⟩
        · right
          refine (inv.rest t fun j hj hD e => ?_).symm
          have h3 := list_all_range h2 hj
          simp only [Bool.or_eq_true, bne_iff_ne, ne_eq, beq_iff_eq] at h3
          rcases h3 with (h3 | h3) | h3
          · exact h3 e
          · obtain ⟨oj, hoj, e', he', hb', hon⟩ := Region.waitsFor_spec h3
            have := inv.head.closed j oj hoj hD e' he' hb'
            rw [hon, getD_both hu] at this
            cases this
          · subst h3
            rw [getD_both hu] at hD
            cases hD
      obtain ⟨T, hA, hS⟩ : ∃ T : Value → World → Prop, Ask' P l.toArray vs (Vs.take i) (ToldL T o.dst a0.defers) o w js a0 ∧ (∀ v w', T v w' → ∃ vs2, V.p vs2 v w' ∧ (∀ (W : Qv L) (j : Nat), D.getD j false = true → Vs[j]? = some W → ∀ {u : Value}, W.p vs u w → W.p vs2 u w') ∧ Cls L late vs2 (D.setIfInBounds i true) w') := by
        rcases hask with ⟨hnl', _, hA⟩ | ⟨q, hq, hVq, hA⟩
        · have hne : ∀ q i', late[q]? = some i' → i ≠ i' := fun q i' hq e => by
            subst e
            have := List.contains_iff_mem.2 (List.mem_of_getElem? hq)
            rw [hnl'] at this
            cases this
          exact ⟨_, hA vs w hk1, fun v w' hg => ⟨vs, hg.1, fun W j _ _ _ hp => W.st hp hg.2, hk0, L.g hk1 hg.2, fun q i' hq => by rw [getD_set_ne false (hne q i' hq)]; exact hk2 q i' hq⟩⟩
        · have hDi : D.getD i false = false := getD_both hu
          have h1 : ¬ q < vs.length := fun h => by have := (hk2 q i hq).2 h; rw [hDi] at this; cases this
          have h2 : q ≤ vs.length := by
            cases q with
            | zero => omega
            | succ q =>
              have hql : q < late.length := by have := (List.getElem?_eq_some_iff.1 hq).1; omega
              have hw := hchain q (by have := (List.getElem?_eq_some_iff.1 hq).1; omega) i hq late[q] (List.getElem?_eq_getElem hql)
              obtain ⟨oj, hoj, e, he, hb, hon⟩ := Region.waitsFor_spec hw
              obtain rfl : o = oj := Option.some.inj (ho.symm.trans hoj)
              have h3 := hall e he hb
              rw [hon] at h3
              have := (hk2 q _ (List.getElem?_eq_getElem hql)).1 h3
              omega
          obtain rfl : q = vs.length := by omega
          refine ⟨_, hA vs w rfl hk1, fun v w' hg => ⟨vs ++ [v], (by rw [hVq]; show (vs ++ [v])[vs.length]? = some v; simp), fun W j hj hW _ hp => W.sr ?_ hk1 hg.1 hp, by rw [List.length_append]; exact (List.getElem?_eq_some_iff.1 hq).1, hg.2, fun q' i' hq' => ?_⟩⟩
          · rcases hfr j W hW with ⟨_, h4⟩ | ⟨q', hq', h4⟩
            · rw [h4]; exact Nat.zero_le _
            · have := (hk2 q' j hq').1 hj
              omega
          · by_cases e : i = i'
            · subst e
              have hqq : q' = vs.length := by
                have h5 := (List.getElem?_eq_some_iff.1 hq').1
                skip
                exact (List.getElem?_inj h5 hnd).1 (hq'.trans hq.symm)
              have hlt : i < D.size := by
                rw [inv.head.size]
                exact (Array.getElem?_eq_some_iff.1 ho).1
              simp [hlt, hqq]
            · rw [getD_set_ne false e, hk2 q' i' hq']
              have : q' ≠ vs.length := fun e' => e (by rw [e', hq] at hq'; exact Option.some.inj hq')
              simp only [List.length_append, List.length_singleton]
              omega
      have hW := Ask'.all (b := a) hget hA
      have hop := toldL_op (Q := Q) (ops := l.toArray) (a0 := a0) (a := a) (Region.noSelect_spec hsel i o · · ho) hdst ((onto_size _ _ _).trans inv.tsize.symm) hlk ho (onto_defers _ _ _) hW
      refine wpOp_mono (fun a' w' hk => ?_) hop
      obtain ⟨v, ha, hT⟩ := hk
      obtain ⟨vs2, hv, hs, hcl⟩ := hS _ w' hT
      exact ih vs2 _ a' w' (linv_step inv hdist hi hin ho hV (by omega) ha hv hs hcl) (by have := (cnt_set (D := D) (i := i) n).2 hin hu; omega)
  have h0 := key n [] (Array.replicate l.toArray.size false) a0 w0 ⟨⟨by simp, (fun j oj _ hD => by rw [getD_replicate_false] at hD; cases hD), fun t _ ht => by simp only [List.size_toArray] at ht ⊢; simp [ht]⟩, ⟨Nat.zero_le _, hC0, fun q i hq => by rw [getD_replicate_false]; simp⟩, rfl, rfl, fun _ _ => rfl, (fun j V hD => by rw [getD_replicate_false] at hD; cases hD)⟩ (cnt_false _ n)
  rwa [show n + (l.toArray.size - n) = l.toArray.size by omega] at h0
/-- One operation that is carried out .. -/
theorem askl_do {T : Value → World → Prop} {ds : List Deferred} {o : Oper} {a : Act} {w : World} (hw : Region.wanted o (yielded ops a.tmps) = true)
    (h : ∀ K' : Act → World → Prop, (∀ a' w', a'.defers = ds → T (match o.dst with | some d => a'.eval (.tmp d) | none => undef) w' → K' a' w') → o.wp P a w K' (ToldL T o.dst ds)) : wpList P ops (ToldL T o.dst ds) [o] a w := by
  unfold wpList
  rw [if_pos hw]
  exact .inl (h _ fun a' w' h1 h2 => ⟨rfl, h1, h2⟩)
/-- What is behind them. -/
def FinL (P : Program) (ops : Array Oper) (Q : Exit → Act → World → Prop) (vs : List Value) (w : World) : List (Qv L) → List Oper → Act → Prop
  | V :: Vs, o :: os, a => ∀ x, V.p vs x w → FinL P ops Q vs w Vs os (a.put o.dst x)
  | _, os, a => wpList P ops Q os a w
theorem FinL.cut {vs : List Value} {w : World} : ∀ {Vs : List (Qv L)} {os : List Oper} {a : Act}, Vs.length ≤ os.length → FinL P ops Q vs w Vs os a → FinL' (fun a w => wpList P ops Q (os.drop Vs.length) a w) vs w Vs (os.take Vs.length) a
  | [], os, a, _, h => by
    have h : wpList P ops Q os a w := by cases os <;> exact h
    exact h
  | V :: Vs, [], a, hl, _ => by simp at hl
  | V :: Vs, o :: os, a, hl, h => fun x hx => FinL.cut (Vs := Vs) (os := os) (by simpa using hl) (h x hx)
theorem LateR.weak {F G : List (Qv L) → Prop} : ∀ {k : Nat} {Rs : List (Qv L)} {os : List Oper}, LateR L late P ops n a0 F k Rs os → (∀ Ws, Ws.length = Rs.length + k → F Ws → G Ws) → LateR L late P ops n a0 G k Rs os
  | 0, Rs, _, h, hg => hg _ (by simp) h
  | _ + 1, _, [], h, _ => h.elim
  | k + 1, Rs, o :: os, ⟨V, js, hb, hA, hM⟩, hg => ⟨V, js, hb, hA, LateR.weak hM fun Ws hW => hg Ws (by simp at hW ⊢; omega)⟩
theorem wpAny_lateR {l : List Oper} (n : Nat) (hB : monoB l.toArray n a0.tmps.size = true) (hBl : lateB l.toArray n late = true) (hC0 : L.C [] w0)
    (h : LateR L late P l.toArray n a0 (fun Vs => ∀ vs w, vs.length = late.length → L.C vs w → FinL P l.toArray Q vs w Vs l a0) n [] l) : wpAny P .any l.toArray Q l.toArray.size (Array.replicate l.toArray.size false) a0 w0 := by
  refine wpAny_late n hB hBl hC0 (LateR.weak h fun Ws hW hF vs w hvl hw => ?_)
  have hn := (LateR.out h).1
  have hl : Ws.length = n := by simpa using hW
  have := FinL.cut (by rw [hl]; exact hn) (hF vs w hvl hw)
  rwa [hl] at this
end
end Go.Proofs.Ytlhjbllfcbojmaa
