/- poly.others, an iterator over how far places are from each other, walked (printed by mk_poly.py). poly.share, walked. poly.may and poly.unlike, walked: what is wrong with places (a map of those met). poly.Weights, walked. share.secrets, small, all, weights, walked. share.all, walked (printed by mk_shrb.py). share.weights, Coms' closures, come over numbers, walked. share.come over numbers, members, walked. share.members, and slices.ContainsFunc at share's closures, walked (printed by mk_shre.py). A pair made in memory. share.Sum's closures, walked (printed by mk_shrf.py). share.come over pairs, walked (printed by mk_shrg.py). share.Sum, walked (printed by mk_shrh.py). fixed.Int, walked. Dealt as data. share.Coms, walked (printed by mk_shrk.py). Draws of a tape, told to what deals: tape.New, deal.secrets, deal.behind, walked. slices.Chunk, an iterator over pieces of a list, walked. A region that draws its order, in which some operations, one behind the other (the late ones: appends, stores), turn what lay there (printed by mk_late.py from XMono). share.Model, walked. deal.two, walked. Pairs, cell by cell. deal.pairs, deal.two, walked (printed by mk_deale.py). poly.Eval; bivar.wide, reads, Col; walked. bivar.columns, an iterator over the columns of lists, walked. bivar.Row and Col, walked. bivar.Col, walked. -/
import Derived.Test.YtnjkelojkoeihaaGreatDoorZ2
import Derived.Maps.OwnOps
import Derived.Maps.OwnSet
import Derived.Maps.Views
import Derived.WalkKit
import Derived.IntWalk
namespace Go.Proofs.YtnjkelojkoeihaaGreatDoor
open Go Go.RowKit Go.Shelf

attribute [local go_sem] Oper.semAt_some
/-- How far the i-th place, and another one, are from the first k, but for the i-th. -/
def othersUp (q : Int) (xs : List Int) (i : Nat) (at_ : Int) (k : Nat) : List (Int × Int) := ((List.range k).filter fun j => j != i).map fun j => (subI (xs[i]?.getD 0) (xs[j]?.getD 0) q, subI at_ (xs[j]?.getD 0) q)
def othersI (q : Int) (xs : List Int) (i : Nat) (at_ : Int) : List (Int × Int) := othersUp q xs i at_ xs.length
theorem othersUp_skip (q : Int) (xs : List Int) (i : Nat) (at_ : Int) : othersUp q xs i at_ (i + 1) = othersUp q xs i at_ i := by simp [othersUp, List.range_succ]
theorem othersUp_snoc (q : Int) (xs : List Int) (i : Nat) (at_ : Int) (k : Nat) (h : k ≠ i) : othersUp q xs i at_ (k + 1) = othersUp q xs i at_ k ++ [(subI (xs[i]?.getD 0) (xs[k]?.getD 0) q, subI at_ (xs[k]?.getD 0) q)] := by simp [othersUp, List.range_succ, h]
theorem othersUp_length (q : Int) (xs : List Int) (i : Nat) (at_ : Int) (k : Nat) : (othersUp q xs i at_ k).length ≤ k := by
  simp only [othersUp, List.length_map]
  exact Nat.le_trans (List.length_filter_le _ _) (by simp)
set_option maxHeartbeats 400000 in
theorem others_any (A : Option Addr) (n c : Nat) (i at_ q : Int) (w : World) :
    Calls Tryz.prog 122 #[.slice A n c, .int .i64 i, .int .u64 at_, .int .u64 q] w fun e w' => e = .returned (.func (.func 133) #[] #[.pointer (some ⟨w.heap.size, 0, none⟩), .pointer (some ⟨w.heap.size + 1, 0, none⟩), .pointer (some ⟨w.heap.size + 1 + 1 + 1, 0, none⟩), .pointer (some ⟨w.heap.size + 1 + 1, 0, none⟩)]) ∧ w' = (((w.alloc (.cells #[.slice A n c] 25)).alloc (.cells #[.int .i64 i] 3)).alloc (.cells #[.int .u64 at_] 22)).alloc (.cells #[.int .u64 q] 22) := by
  go_enter Tryz.func122, Tryz.ntmps122
  go_wp2
  go_ret
  exact ⟨rfl, rfl⟩
/-- What a round keeps: what lay below n₀, and four boxes. -/
def Kp4 (n₀ B1 B2 B3 B4 : Nat) (A B : World) : Prop := Below n₀ A B ∧ B.heap[B1]? = A.heap[B1]? ∧ B.heap[B2]? = A.heap[B2]? ∧ B.heap[B3]? = A.heap[B3]? ∧ B.heap[B4]? = A.heap[B4]?
theorem Kp4.refl (n₀ B1 B2 B3 B4 : Nat) (A : World) : Kp4 n₀ B1 B2 B3 B4 A A := ⟨Below.refl _ _, rfl, rfl, rfl, rfl⟩
theorem Kp4.trans {n₀ B1 B2 B3 B4 : Nat} {A B C : World} (h : Kp4 n₀ B1 B2 B3 B4 A B) (k : Kp4 n₀ B1 B2 B3 B4 B C) : Kp4 n₀ B1 B2 B3 B4 A C := ⟨h.1.trans k.1, k.2.1.trans h.2.1, k.2.2.1.trans h.2.2.1, k.2.2.2.1.trans h.2.2.2.1, k.2.2.2.2.trans h.2.2.2.2⟩
theorem Kp4.grown {n₀ B1 B2 B3 B4 : Nat} {A B : World} (hg : A.grownBy B none) (hn : n₀ ≤ A.heap.size) (h1 : B1 < A.heap.size) (h2 : B2 < A.heap.size) (h3 : B3 < A.heap.size) (h4 : B4 < A.heap.size) : Kp4 n₀ B1 B2 B3 B4 A B :=
  ⟨(below_grown hg).mono hn, hg.block _ h1 (by simp), hg.block _ h2 (by simp), hg.block _ h3 (by simp), hg.block _ h4 (by simp)⟩
theorem Kp4.b {n₀ B1 B2 B3 B4 : Nat} {w : World} (hn : n₀ ≤ w.heap.size) (h1 : B1 < w.heap.size) (h2 : B2 < w.heap.size) (h3 : B3 < w.heap.size) (h4 : B4 < w.heap.size) (W : World) (l : Nat) (o o' : Obj) (hl : w.heap.size ≤ l) (h : W.heap[l]? = some o) (k1 : o.isCells = false) (k2 : o.isWalk = false) : Kp4 n₀ B1 B2 B3 B4 W (W.putObj l o') := by
  have hlt := (Array.getElem?_eq_some_iff.1 h).1
  have hg := grownBy_putObj' W l o'
  exact ⟨belowK_b hn W l o o' hl h k1 k2, hg.block _ (by omega) (fun e => by injection e with e; omega), hg.block _ (by omega) (fun e => by injection e with e; omega), hg.block _ (by omega) (fun e => by injection e with e; omega), hg.block _ (by omega) (fun e => by injection e with e; omega)⟩
set_option maxRecDepth 100000 in
set_option maxHeartbeats 2000000 in
theorem others_goes (nn : Nat) (hn : 1 ≤ nn) (B1 B2 B3 B4 : Nat) (v : Value) (xs : List Int) (i : Nat) (at_ q : Int) (X : Nat → Prop) (w₀ w1 : World) (h01 : Below w₀.heap.size w₀ w1) (hb1 : Boxed w1 B1 25 v) (hb2 : Boxed w1 B2 3 (.int .i64 i)) (hb3 : Boxed w1 B3 22 (.int .u64 q)) (hb4 : Boxed w1 B4 22 (.int .u64 at_)) (hxs : Sl encU X w₀ v xs) (hi : i < xs.length) (hu : U64 at_) :
    SeqGoes Fence.wide nn Tryz.prog 133 #[.pointer (some ⟨B1, 0, none⟩), .pointer (some ⟨B2, 0, none⟩), .pointer (some ⟨B3, 0, none⟩), .pointer (some ⟨B4, 0, none⟩)] (fun x : Int × Int => #[.int .u64 x.1, .int .u64 x.2]) (fun x _ => U64 x.1 ∧ U64 x.2) (Kp4 w₀.heap.size B1 B2 B3 B4) (fun ys => ys = othersI q xs i at_) xs.length w1 := by
  intro l J W hW hJ hY h0
  refine callsIn_of_wp Tryz.func133 rfl trivial ?_ rfl
  simp only [Tryz.ntmps133, List.size_toArray, List.length_cons, List.length_nil, Nat.reduceAdd, Nat.reduceSub, Array.replicate_succ, Array.replicate_zero, List.push_toArray, List.append_toArray, List.nil_append, List.cons_append]
  have HW1 : Hid (Boxed W B1 25 v) := Lib.hid ((hW.5 B1 hb1.lt).trans hb1)
  have HW2 : Hid (Boxed W B2 3 (.int .i64 i)) := Lib.hid ((hW.5 B2 hb2.lt).trans hb2)
  have HW3 : Hid (Boxed W B3 22 (.int .u64 q)) := Lib.hid ((hW.5 B3 hb3.lt).trans hb3)
  have HW4 : Hid (Boxed W B4 22 (.int .u64 at_)) := Lib.hid ((hW.5 B4 hb4.lt).trans hb4)
  have HG0 : Hid (w₀.grownBy W none) := Lib.hid (grown_of_below (h01.trans (hW.mono h01.size)))
  have HXS := Lib.hid hxs
  have HUA := Lib.hid hu
  obtain ⟨g, o, c, _, e, _, _, _, _⟩ := hxs.at (k := i) hi
  subst e
  obtain ⟨n, hnn⟩ : ∃ n, n = xs.length := ⟨_, rfl⟩
  have HN := Lib.hid hnn
  rw [← hnn] at HXS HW1 hY hi
  have ca := HW1.out.cell
  have hn9 : n ≤ 9223372036854775807 := by rw [hnn]; exact hxs.bound
  have HH0 := Lib.hid h0
  have hinI : (i : Int) < (n : Int) := by omega
  have hi0 : (0 : Int) ≤ (i : Int) := by omega
  clear hb1 hb2 hb3 hb4 hxs h0 hnn hu
  gi_wp2
  gi_loopw [10] (fun s10 wr => ∃ (k : Nat) (pre : List (Int × Int)), k ≤ n ∧ s10 = .int .i64 k ∧ Hid (pre = othersUp q xs i at_ k ∧ J pre wr ∧ Kp4 w₀.heap.size B1 B2 B3 B4 W wr)) (fun s10 _ => n - (intOf s10).toNat)
  case atStart => exact ⟨0, [], by omega, rfl, Lib.hid ⟨rfl, HH0.out, Kp4.refl _ _ _ _ _ _⟩⟩
  case round =>
    rename World => wr
    obtain ⟨k, pre, hk, rfl, HX⟩ := hrel
    by_cases hlt : k < n
    · have hki : (k : Int) < (n : Int) := by omega
      have hk0 : (0 : Int) ≤ (k : Int) := by omega
      have hpl : pre.length ≤ k := by rw [HX.out.1]; exact othersUp_length _ _ _ _ _
      have hJk : J pre wr.drew := hJ _ wr wr.drew none HX.out.2.1 (grownBy_drewN (World.grownBy.refl wr none) 1) (by simp)
      have HGr : Hid (w₀.grownBy wr.drew none) := Lib.hid (grownBy_drewN (grown_of_below ((below_grown HG0.out).trans HX.out.2.2.1)) 1)
      have HB1 : Hid (Boxed wr.drew B1 25 (.slice (some ⟨g, o, none⟩) n c)) := Lib.hid (HX.out.2.2.2.1.trans HW1.out)
      have HB2 : Hid (Boxed wr.drew B2 3 (.int .i64 i)) := Lib.hid (HX.out.2.2.2.2.1.trans HW2.out)
      have HB3 : Hid (Boxed wr.drew B3 22 (.int .u64 q)) := Lib.hid (HX.out.2.2.2.2.2.1.trans HW3.out)
      have HB4 : Hid (Boxed wr.drew B4 22 (.int .u64 at_)) := Lib.hid (HX.out.2.2.2.2.2.2.trans HW4.out)
      have HKD : Hid (Kp4 w₀.heap.size B1 B2 B3 B4 W wr.drew) := Lib.hid (HX.out.2.2.trans ⟨⟨rfl, rfl, rfl, Nat.le_refl _, fun _ _ => rfl⟩, rfl, rfl, rfl, rfl⟩)
      have hcell : ∀ j (hj : j < xs.length), ∀ w', wr.drew.grownBy w' none → w'.cell? ⟨g, o + j, none⟩ = some (.int .u64 xs[j]) ∧ U64 xs[j] := fun j hj w' hw => by
        obtain ⟨g', o', c', e, _, _, hcu, hu⟩ := (HXS.out.kept (HGr.out.trans hw)).atU hj
        injection e with e1 e2 e3
        injection e1 with e1
        injection e1 with e4 e5
        subst e4 e5
        exact ⟨hcu, hu⟩
      have hkx : k < xs.length := by rw [← HN.out]; exact hlt
      have hix : i < xs.length := by rw [← HN.out]; exact hi
      have hck : wr.cell? ⟨g, o + k, none⟩ = some (.int .u64 xs[k]) := (hcell k hkx wr.drew (World.grownBy.refl _ _)).1
      have HUK := Lib.hid (hcell k hkx wr.drew (World.grownBy.refl _ _)).2
      have HUI := Lib.hid (hcell i hix wr.drew (World.grownBy.refl _ _)).2
      have HXI : Hid (∀ w', wr.drew.grownBy w' none → w'.cell? ⟨g, o + i, none⟩ = some (.int .u64 xs[i])) := Lib.hid (fun w' hw => (hcell i hix w' hw).1)
      clear hcell ca
      by_cases hki2 : k = i
      · subst hki2
        have HPN : Hid (pre = othersUp q xs k at_ (k + 1)) := Lib.hid (by rw [othersUp_skip]; exact HX.out.1)
        have hd : ((k : Int) != (k : Int)) = false := by simp
        have HJD := Lib.hid (fun w' (hw : wr.drew.grownBy w' none) => hJ pre wr.drew w' none hJk hw (by simp))
        have HKE := Lib.hid (fun w' (hw : wr.drew.grownBy w' none) => HKD.out.trans (Kp4.grown hw HGr.out.size HB1.out.lt HB2.out.lt HB3.out.lt HB4.out.lt))
        generalize xs[k] = xk at *
        clear hJk HX
        gi_wp2
        refine wpIn_wide.2 ?_
        refine wp_region_mono 19 (by kernel_rfl) (by kernel_rfl) ?_
        -- op 0 (slot 15): move
        refine MonoR.step (Pv.eq (.int .i64 (k : Int))) [] (by kernel_rfl) (fun w' hw' => ?_) ?_
        · refine ask_do rfl fun K hK => ?_
          go_simp
          exact hK _ _ rfl rfl (World.grownBy.refl _ none)
        -- op 1 (slot 16): load
        refine MonoR.step (Pv.eq (.int .i64 (k : Int))) [] (by kernel_rfl) (fun w' hw' => ?_) ?_
        · refine ask_do rfl fun K hK => ?_
          have h1c := (HB1.out.kept hw' (by simp)).cell
          have h2c := (HB2.out.kept hw' (by simp)).cell
          have h3c := (HB3.out.kept hw' (by simp)).cell
          have h4c := (HB4.out.kept hw' (by simp)).cell
          go_simp
          exact hK _ _ rfl rfl (World.grownBy.refl _ none)
        -- op 2 (slot 17): binOp
        refine MonoR.step (Pv.eq (.bool false)) [(0, 15), (1, 16)] (by kernel_rfl) (fun w' hw' => ?_) ?_
        · rintro _ rfl
          rintro _ rfl
          refine ask_do rfl fun K hK => ?_
          go_simp
          exact hK _ _ rfl rfl (World.grownBy.refl _ none)
        -- op 3 (slot 18): move
        refine MonoR.step (Pv.eq (.bool false)) [(2, 17)] (by kernel_rfl) (fun w' hw' => ?_) ?_
        · rintro _ rfl
          refine ask_do rfl fun K hK => ?_
          go_simp
          exact hK _ _ rfl rfl (World.grownBy.refl _ none)
        -- op 4 (slot 19): move [(3, 'true')]
        refine MonoR.step (Pv.eq (undef)) [(3, 18)] (by kernel_rfl) (fun w' hw' => ?_) ?_
        · rintro _ rfl
          exact ask_skip rfl rfl rfl
        -- op 5 (slot 20): load [(3, 'true')]
        refine MonoR.step (Pv.eq (undef)) [(3, 18)] (by kernel_rfl) (fun w' hw' => ?_) ?_
        · rintro _ rfl
          exact ask_skip rfl rfl rfl
        -- op 6 (slot 21): load [(3, 'true')]
        refine MonoR.step (Pv.eq (undef)) [(3, 18)] (by kernel_rfl) (fun w' hw' => ?_) ?_
        · rintro _ rfl
          exact ask_skip rfl rfl rfl
        -- op 7 (slot 22): indexAddr [(3, 'true')]
        refine MonoR.step (Pv.eq (undef)) [(3, 18), (5, 20), (6, 21)] (by kernel_rfl) (fun w' hw' => ?_) ?_
        · rintro _ rfl
          rintro _ rfl
          rintro _ rfl
          exact ask_skip rfl rfl rfl
        -- op 8 (slot 23): load [(3, 'true')]
        refine MonoR.step (Pv.eq (undef)) [(3, 18), (7, 22)] (by kernel_rfl) (fun w' hw' => ?_) ?_
        · rintro _ rfl
          rintro _ rfl
          exact ask_skip rfl rfl rfl
        -- op 9 (slot 24): move [(3, 'true')]
        refine MonoR.step (Pv.eq (undef)) [(3, 18)] (by kernel_rfl) (fun w' hw' => ?_) ?_
        · rintro _ rfl
          exact ask_skip rfl rfl rfl
        -- op 10 (slot 25): load [(3, 'true')]
        refine MonoR.step (Pv.eq (undef)) [(3, 18)] (by kernel_rfl) (fun w' hw' => ?_) ?_
        · rintro _ rfl
          exact ask_skip rfl rfl rfl
        -- op 11 (slot 26): call [(3, 'true')]
        refine MonoR.step (Pv.eq (undef)) [(3, 18), (8, 23), (9, 24), (10, 25)] (by kernel_rfl) (fun w' hw' => ?_) ?_
        · rintro _ rfl
          rintro _ rfl
          rintro _ rfl
          rintro _ rfl
          exact ask_skip rfl rfl rfl
        -- op 12 (slot 27): load [(3, 'true')]
        refine MonoR.step (Pv.eq (undef)) [(3, 18)] (by kernel_rfl) (fun w' hw' => ?_) ?_
        · rintro _ rfl
          exact ask_skip rfl rfl rfl
        -- op 13 (slot 28): move [(3, 'true')]
        refine MonoR.step (Pv.eq (undef)) [(3, 18)] (by kernel_rfl) (fun w' hw' => ?_) ?_
        · rintro _ rfl
          exact ask_skip rfl rfl rfl
        -- op 14 (slot 29): load [(3, 'true')]
        refine MonoR.step (Pv.eq (undef)) [(3, 18)] (by kernel_rfl) (fun w' hw' => ?_) ?_
        · rintro _ rfl
          exact ask_skip rfl rfl rfl
        -- op 15 (slot 30): call [(3, 'true')]
        refine MonoR.step (Pv.eq (undef)) [(3, 18), (12, 27), (13, 28), (14, 29)] (by kernel_rfl) (fun w' hw' => ?_) ?_
        · rintro _ rfl
          rintro _ rfl
          rintro _ rfl
          rintro _ rfl
          exact ask_skip rfl rfl rfl
        -- op 16 (slot 31): call [(3, 'true')]
        refine MonoR.step (Pv.eq (undef)) [(3, 18), (4, 19), (11, 26), (15, 30)] (by kernel_rfl) (fun w' hw' => ?_) ?_
        · rintro _ rfl
          rintro _ rfl
          rintro _ rfl
          rintro _ rfl
          exact ask_skip rfl rfl rfl
        -- op 17 (slot 32): unOp [(3, 'true')]
        refine MonoR.step (Pv.eq (undef)) [(3, 18), (16, 31)] (by kernel_rfl) (fun w' hw' => ?_) ?_
        · rintro _ rfl
          rintro _ rfl
          exact ask_skip rfl rfl rfl
        -- op 18 (slot 33): pick
        refine MonoR.step (Pv.eq (.bool false)) [(3, 18), (17, 32)] (by kernel_rfl) (fun w' hw' => ?_) ?_
        · rintro _ rfl
          rintro _ rfl
          refine ask_do rfl fun K hK => ?_
          go_simp
          exact hK _ _ rfl rfl (World.grownBy.refl _ none)
        intro w3 hw3
        iterate 18 (intro _ _)
        rintro _ rfl
        have HJ3 := Lib.hid (HJD.out w3 hw3)
        have HK3 := Lib.hid (HKE.out w3 hw3)
        clear hw3
        refine wpList_nil ?_
        simp only [Act.put, List.setIfInBounds_toArray, List.set_cons_zero, List.set_cons_succ]
        go_wp2_with fail
        gi_wp2
        exact ⟨⟨k + 1, pre, by omega, by go_num, Lib.hid ⟨HPN.out, HJ3.out, HK3.out⟩⟩, by simp [intOf]; omega⟩
      · have HPN : Hid (pre ++ [(subI xs[i] xs[k] q, subI at_ xs[k] q)] = othersUp q xs i at_ (k + 1)) := Lib.hid (by rw [othersUp_snoc _ _ _ _ _ hki2, HX.out.1, List.getElem?_eq_getElem hkx, List.getElem?_eq_getElem hix]; rfl)
        have hd : ((k : Int) != (i : Int)) = true := by simp; omega
        have HRY := Lib.hid (fun w' (hw : wr.drew.grownBy w' none) => hY pre (subI xs[i] xs[k] q, subI at_ xs[k] q) w' (hJ pre wr.drew w' none hJk hw (by simp)) ⟨subI_U64 _ _ _, subI_U64 _ _ _⟩ (by omega))
        have HKE := Lib.hid (fun w' (hw : wr.drew.grownBy w' none) => HKD.out.trans (Kp4.grown hw HGr.out.size HB1.out.lt HB2.out.lt HB3.out.lt HB4.out.lt))
        obtain ⟨xk, hxk⟩ : ∃ y, y = xs[k] := ⟨_, rfl⟩
        obtain ⟨xi, hxi⟩ : ∃ y, y = xs[i] := ⟨_, rfl⟩
        rw [← hxk] at hck HUK HPN HRY
        rw [← hxi] at HUI HXI HPN HRY
        clear hJk HX hxk hxi
        gi_wp2
        refine wpIn_region_mono 16 (by kernel_rfl) (by kernel_rfl) (by kernel_rfl) ?_
        -- op 0 (slot 15): move
        refine MonoR.step (Pv.eq (.int .i64 (k : Int))) [] (by kernel_rfl) (fun w' hw' => ?_) ?_
        · refine ask_do rfl fun K hK => ?_
          go_simp
          exact hK _ _ rfl rfl (World.grownBy.refl _ none)
        -- op 1 (slot 16): load
        refine MonoR.step (Pv.eq (.int .i64 (i : Int))) [] (by kernel_rfl) (fun w' hw' => ?_) ?_
        · refine ask_do rfl fun K hK => ?_
          have h1c := (HB1.out.kept hw' (by simp)).cell
          have h2c := (HB2.out.kept hw' (by simp)).cell
          have h3c := (HB3.out.kept hw' (by simp)).cell
          have h4c := (HB4.out.kept hw' (by simp)).cell
          have hxi := HXI.out w' hw'
          go_simp
          exact hK _ _ rfl rfl (World.grownBy.refl _ none)
        -- op 2 (slot 17): binOp
        refine MonoR.step (Pv.eq (.bool true)) [(0, 15), (1, 16)] (by kernel_rfl) (fun w' hw' => ?_) ?_
        · rintro _ rfl
          rintro _ rfl
          refine ask_do rfl fun K hK => ?_
          go_simp
          exact hK _ _ rfl rfl (World.grownBy.refl _ none)
        -- op 3 (slot 18): move
        refine MonoR.step (Pv.eq (.bool true)) [(2, 17)] (by kernel_rfl) (fun w' hw' => ?_) ?_
        · rintro _ rfl
          refine ask_do rfl fun K hK => ?_
          go_simp
          exact hK _ _ rfl rfl (World.grownBy.refl _ none)
        -- op 4 (slot 19): move [(3, 'true')]
        refine MonoR.step (Pv.eq (.func (.yield l) #[] #[])) [(3, 18)] (by kernel_rfl) (fun w' hw' => ?_) ?_
        · rintro _ rfl
          refine ask_do rfl fun K hK => ?_
          go_simp
          exact hK _ _ rfl rfl (World.grownBy.refl _ none)
        -- op 5 (slot 20): load [(3, 'true')]
        refine MonoR.step (Pv.eq (.slice (some ⟨g, o, none⟩) n c)) [(3, 18)] (by kernel_rfl) (fun w' hw' => ?_) ?_
        · rintro _ rfl
          refine ask_do rfl fun K hK => ?_
          have h1c := (HB1.out.kept hw' (by simp)).cell
          have h2c := (HB2.out.kept hw' (by simp)).cell
          have h3c := (HB3.out.kept hw' (by simp)).cell
          have h4c := (HB4.out.kept hw' (by simp)).cell
          have hxi := HXI.out w' hw'
          go_simp
          exact hK _ _ rfl rfl (World.grownBy.refl _ none)
        -- op 6 (slot 21): load [(3, 'true')]
        refine MonoR.step (Pv.eq (.int .i64 (i : Int))) [(3, 18)] (by kernel_rfl) (fun w' hw' => ?_) ?_
        · rintro _ rfl
          refine ask_do rfl fun K hK => ?_
          have h1c := (HB1.out.kept hw' (by simp)).cell
          have h2c := (HB2.out.kept hw' (by simp)).cell
          have h3c := (HB3.out.kept hw' (by simp)).cell
          have h4c := (HB4.out.kept hw' (by simp)).cell
          have hxi := HXI.out w' hw'
          go_simp
          exact hK _ _ rfl rfl (World.grownBy.refl _ none)
        -- op 7 (slot 22): indexAddr [(3, 'true')]
        refine MonoR.step (Pv.eq (.pointer (some ⟨g, o + i, none⟩))) [(3, 18), (5, 20), (6, 21)] (by kernel_rfl) (fun w' hw' => ?_) ?_
        · rintro _ rfl
          rintro _ rfl
          rintro _ rfl
          refine ask_do rfl fun K hK => ?_
          go_simp
          exact hK _ _ rfl rfl (World.grownBy.refl _ none)
        -- op 8 (slot 23): load [(3, 'true')]
        refine MonoR.step (Pv.eq (.int .u64 xi)) [(3, 18), (7, 22)] (by kernel_rfl) (fun w' hw' => ?_) ?_
        · rintro _ rfl
          rintro _ rfl
          refine ask_do rfl fun K hK => ?_
          have h1c := (HB1.out.kept hw' (by simp)).cell
          have h2c := (HB2.out.kept hw' (by simp)).cell
          have h3c := (HB3.out.kept hw' (by simp)).cell
          have h4c := (HB4.out.kept hw' (by simp)).cell
          have hxi := HXI.out w' hw'
          go_simp
          exact hK _ _ rfl rfl (World.grownBy.refl _ none)
        -- op 9 (slot 24): move [(3, 'true')]
        refine MonoR.step (Pv.eq (.int .u64 xk)) [(3, 18)] (by kernel_rfl) (fun w' hw' => ?_) ?_
        · rintro _ rfl
          refine ask_do rfl fun K hK => ?_
          go_simp
          exact hK _ _ rfl rfl (World.grownBy.refl _ none)
        -- op 10 (slot 25): load [(3, 'true')]
        refine MonoR.step (Pv.eq (.int .u64 q)) [(3, 18)] (by kernel_rfl) (fun w' hw' => ?_) ?_
        · rintro _ rfl
          refine ask_do rfl fun K hK => ?_
          have h1c := (HB1.out.kept hw' (by simp)).cell
          have h2c := (HB2.out.kept hw' (by simp)).cell
          have h3c := (HB3.out.kept hw' (by simp)).cell
          have h4c := (HB4.out.kept hw' (by simp)).cell
          have hxi := HXI.out w' hw'
          go_simp
          exact hK _ _ rfl rfl (World.grownBy.refl _ none)
        -- op 11 (slot 26): call [(3, 'true')]
        refine MonoR.step (Pv.eq (.int .u64 (subI xi xk q))) [(3, 18), (8, 23), (9, 24), (10, 25)] (by kernel_rfl) (fun w' hw' => ?_) ?_
        · rintro _ rfl
          rintro _ rfl
          rintro _ rfl
          rintro _ rfl
          refine ask_do rfl fun K hK => ?_
          go_simp
          refine (sub_gr xi xk q w' HUI.out HUK.out).mono ?_
          rintro e w3 ⟨rfl, hg⟩
          exact hK _ _ rfl rfl hg
        -- op 12 (slot 27): load [(3, 'true')]
        refine MonoR.step (Pv.eq (.int .u64 at_)) [(3, 18)] (by kernel_rfl) (fun w' hw' => ?_) ?_
        · rintro _ rfl
          refine ask_do rfl fun K hK => ?_
          have h1c := (HB1.out.kept hw' (by simp)).cell
          have h2c := (HB2.out.kept hw' (by simp)).cell
          have h3c := (HB3.out.kept hw' (by simp)).cell
          have h4c := (HB4.out.kept hw' (by simp)).cell
          have hxi := HXI.out w' hw'
          go_simp
          exact hK _ _ rfl rfl (World.grownBy.refl _ none)
        -- op 13 (slot 28): move [(3, 'true')]
        refine MonoR.step (Pv.eq (.int .u64 xk)) [(3, 18)] (by kernel_rfl) (fun w' hw' => ?_) ?_
        · rintro _ rfl
          refine ask_do rfl fun K hK => ?_
          go_simp
          exact hK _ _ rfl rfl (World.grownBy.refl _ none)
        -- op 14 (slot 29): load [(3, 'true')]
        refine MonoR.step (Pv.eq (.int .u64 q)) [(3, 18)] (by kernel_rfl) (fun w' hw' => ?_) ?_
        · rintro _ rfl
          refine ask_do rfl fun K hK => ?_
          have h1c := (HB1.out.kept hw' (by simp)).cell
          have h2c := (HB2.out.kept hw' (by simp)).cell
          have h3c := (HB3.out.kept hw' (by simp)).cell
          have h4c := (HB4.out.kept hw' (by simp)).cell
          have hxi := HXI.out w' hw'
          go_simp
          exact hK _ _ rfl rfl (World.grownBy.refl _ none)
        -- op 15 (slot 30): call [(3, 'true')]
        refine MonoR.step (Pv.eq (.int .u64 (subI at_ xk q))) [(3, 18), (12, 27), (13, 28), (14, 29)] (by kernel_rfl) (fun w' hw' => ?_) ?_
        · rintro _ rfl
          rintro _ rfl
          rintro _ rfl
          rintro _ rfl
          refine ask_do rfl fun K hK => ?_
          go_simp
          refine (sub_gr at_ xk q w' HUA.out HUK.out).mono ?_
          rintro e w3 ⟨rfl, hg⟩
          exact hK _ _ rfl rfl hg
        intro w3 hw3
        intro y0 e0 y1 e1 y2 e2 y3 e3 y4 e4 y5 e5 y6 e6 y7 e7 y8 e8 y9 e9 y10 e10 y11 e11 y12 e12 y13 e13 y14 e14 y15 e15
        show wpListIn Fence.wide nn Tryz.prog _ _ _ _ w3
        have e0 : y0 = .int .i64 (k : Int) := e0
        subst e0
        have e1 : y1 = .int .i64 (i : Int) := e1
        subst e1
        have e2 : y2 = .bool true := e2
        subst e2
        have e3 : y3 = .bool true := e3
        subst e3
        have e4 : y4 = .func (.yield l) #[] #[] := e4
        subst e4
        have e5 : y5 = .slice (some ⟨g, o, none⟩) n c := e5
        subst e5
        have e6 : y6 = .int .i64 (i : Int) := e6
        subst e6
        have e7 : y7 = .pointer (some ⟨g, o + i, none⟩) := e7
        subst e7
        have e8 : y8 = .int .u64 xi := e8
        subst e8
        have e9 : y9 = .int .u64 xk := e9
        subst e9
        have e10 : y10 = .int .u64 q := e10
        subst e10
        have e11 : y11 = .int .u64 (subI xi xk q) := e11
        subst e11
        have e12 : y12 = .int .u64 at_ := e12
        subst e12
        have e13 : y13 = .int .u64 xk := e13
        subst e13
        have e14 : y14 = .int .u64 q := e14
        subst e14
        have e15 : y15 = .int .u64 (subI at_ xk q) := e15
        subst e15
        simp only [Act.put, List.setIfInBounds_toArray, List.set_cons_zero, List.set_cons_succ]
        have hyy := HRY.out w3 hw3
        clear HRY
        unfold YieldAt at hyy
        try dsimp only at hyy
        refine Exists.elim hyy fun fn hyy1 => Exists.elim hyy1 fun tmps hyy2 => Exists.elim hyy2 fun assign hyy3 => Exists.elim hyy3 fun body hyy4 => ?_
        clear hyy hyy1 hyy2 hyy3
        have hy := hyy4.1
        have hR := hyy4.2
        clear hyy4
        have HR := Lib.hid hR
        have HK3 := Lib.hid (HKE.out w3 hw3)
        clear hw3 hR
        gi_wp2_with ((with_reducible refine HR.out.mono ?_); rintro e W' ⟨rfl, hJ2, hK2⟩)
        exact ⟨⟨k + 1, _, by omega, by go_num, Lib.hid ⟨HPN.out, hJ2, HK3.out.trans hK2⟩⟩, by simp [intOf]; omega⟩
    · obtain rfl : k = n := by omega
      gi_wp2
      go_end0
      exact ⟨⟨_, rfl⟩, pre, by rw [HX.out.1, HN.out]; rfl, HX.out.2.1⟩
end Go.Proofs.YtnjkelojkoeihaaGreatDoor

namespace Go.Proofs.YtnjkelojkoeihaaGreatDoor
open Go Go.RowKit Go.Shelf

attribute [local go_sem] Oper.semAt_some
/-- The product of numbers modulo q. -/
def prodI (q : Int) (l : List Int) : Int := l.foldl (fun s y => mulI s y q) (1 % q)
theorem prodI_snoc (q : Int) (l : List Int) (y : Int) : prodI q (l ++ [y]) = mulI (prodI q l) y q := by simp [prodI]
open Classical in
/-- What share tells. -/
noncomputable def shareV (q : Int) (xs : List Int) (i : Nat) (at_ : Int) : Value :=
  if HasInv (prodI q ((othersI q xs i at_).map (·.1))) q then .tuple #[.int .u64 (invI (prodI q ((othersI q xs i at_).map (·.1))) q), .int .u64 (prodI q ((othersI q xs i at_).map (·.2))), .int .i64 0]
  else .tuple #[.int .u64 0, .int .u64 (prodI q ((othersI q xs i at_).map (·.2))), .int .i64 5]
/-- Two new boxes. -/
def TwoB (w wx : World) (q : Int) (B1 B2 : Nat) : Prop := w.heap.size < B1 ∧ w.heap.size < B2 ∧ B1 ≠ B2 ∧ Boxed wx w.heap.size 22 (.int .u64 q) ∧ Boxed wx B1 22 (.int .u64 (1 % q)) ∧ Boxed wx B2 22 (.int .u64 (1 % q)) ∧ w.grownBy wx none
theorem prodI_fold (q : Int) (hq : mayB q = true) : ∀ (l : List Int) (s : Int), 0 ≤ s ∧ s < q → 0 ≤ l.foldl (fun s y => mulI s y q) s ∧ l.foldl (fun s y => mulI s y q) s < q
  | [], _, h => h
  | y :: l, s, _ => prodI_fold q hq l _ (mulI_bd s y q hq)
theorem prodI_bd (q : Int) (hq : mayB q = true) (l : List Int) : 0 ≤ prodI q l ∧ prodI q l < q := by
  refine prodI_fold q hq l _ ?_
  simp [mayB] at hq
  exact emod_bd 1 q hq.1
theorem prodI_U64 (q : Int) (hq : mayB q = true) (l : List Int) : U64 (prodI q l) := by
  have h := prodI_bd q hq l
  simp [mayB] at hq
  exact ⟨h.1, by omega⟩
/-- The four boxes of others. -/
theorem four_boxes (w : World) (t1 t2 t3 t4 : TypeId) (v1 v2 v3 v4 : Value) (W0 : World) (h : W0 = (((w.alloc (.cells #[v1] t1)).alloc (.cells #[v2] t2)).alloc (.cells #[v3] t3)).alloc (.cells #[v4] t4)) :
    Boxed W0 w.heap.size t1 v1 ∧ Boxed W0 (w.heap.size + 1) t2 v2 ∧ Boxed W0 (w.heap.size + 1 + 1) t3 v3 ∧ Boxed W0 (w.heap.size + 1 + 1 + 1) t4 v4 ∧ w.grownBy W0 none ∧ W0.heap.size = w.heap.size + 1 + 1 + 1 + 1 := by
  subst h
  have b2 := ((Boxed.new (w.alloc (.cells #[v1] t1)) t2 v2).alloc (.cells #[v3] t3)).alloc (.cells #[v4] t4)
  have b3 := (Boxed.new ((w.alloc (.cells #[v1] t1)).alloc (.cells #[v2] t2)) t3 v3).alloc (.cells #[v4] t4)
  have b4 := Boxed.new (((w.alloc (.cells #[v1] t1)).alloc (.cells #[v2] t2)).alloc (.cells #[v3] t3)) t4 v4
  simp only [World.size_alloc] at b2 b3 b4
  exact ⟨(((Boxed.new w t1 v1).alloc _).alloc _).alloc _, b2, b3, b4, (((World.grownBy_alloc w _ none).trans (World.grownBy_alloc _ _ none)).trans (World.grownBy_alloc _ _ none)).trans (World.grownBy_alloc _ _ none), by simp⟩
/-- The round of share: what it was begun with. -/
structure ShE where
  w : World
  W0 : World
  W : World
  q : Int
  p1 : Int
  p2 : Int
  p1' : Int
  p2' : Int
  B1 : Nat
  B2 : Nat
  C1 : Nat
  C2 : Nat
  C3 : Nat
  C4 : Nat
structure ShE.Ok (e : ShE) : Prop where
  b1 : e.w.heap.size < e.B1
  b2 : e.w.heap.size < e.B2
  b12 : e.B1 ≠ e.B2
  c1 : e.B1 < e.C1 ∧ e.B2 < e.C1 ∧ e.C1 < e.W0.heap.size
  c2 : e.B1 < e.C2 ∧ e.B2 < e.C2 ∧ e.C2 < e.W0.heap.size
  c3 : e.B1 < e.C3 ∧ e.B2 < e.C3 ∧ e.C3 < e.W0.heap.size
  c4 : e.B1 < e.C4 ∧ e.B2 < e.C4 ∧ e.C4 < e.W0.heap.size
/-- Where the world stands, by what was written. -/
structure ShE.At (e : ShE) (x y : Bool) (V : World) : Prop where
  q : Boxed V e.w.heap.size 22 (.int .u64 e.q)
  one : Boxed V e.B1 22 (.int .u64 (if x then e.p1' else e.p1))
  two : Boxed V e.B2 22 (.int .u64 (if y then e.p2' else e.p2))
  from' : KeepsFrom e.W0.heap.size e.W V
  kp : Kp4 e.w.heap.size e.C1 e.C2 e.C3 e.C4 e.W V
  bl : Below e.w.heap.size e.w V
  sz : e.W0.heap.size ≤ V.heap.size
theorem ShE.At.grown {e : ShE} (k : e.Ok) {x y : Bool} {V V' : World} (h : e.At x y V) (hg : V.grownBy V' none) : e.At x y V' := by
  have h1 := k.c1
  have h2 := k.c2
  have h3 := k.c3
  have h4 := k.c4
  have h5 := h.sz
  have h6 := k.b1
  exact ⟨h.q.kept hg (by simp), h.one.kept hg (by simp), h.two.kept hg (by simp), h.from'.trans ((keeps_none hg).from _), h.kp.trans (Kp4.grown hg (by omega) (by omega) (by omega) (by omega) (by omega)), h.bl.trans ((below_grown hg).mono (by omega)), Nat.le_trans h.sz hg.size⟩
theorem ShE.At.set1 {e : ShE} (k : e.Ok) {x y : Bool} {V : World} (h : e.At x y V) : e.At true y (V.setCell ⟨e.B1, 0, none⟩ (.int .u64 e.p1')) := by
  have h1 := k.c1
  have h2 := k.c2
  have h3 := k.c3
  have h4 := k.c4
  have h6 := k.b1
  have h7 := k.b12
  exact ⟨h.q.other (by omega) _, h.one.set _, h.two.other (by omega) _, h.from'.trans ((KeepsOthers.setCell _ _ _).from _), h.kp.trans ⟨(Below.refl _ V).setCell (p := ⟨e.B1, 0, none⟩) (by simp; omega) _, Below.heap_setCell V _ _ _ (by simp; omega), Below.heap_setCell V _ _ _ (by simp; omega), Below.heap_setCell V _ _ _ (by simp; omega), Below.heap_setCell V _ _ _ (by simp; omega)⟩, h.bl.setCell (p := ⟨e.B1, 0, none⟩) (by simp; omega) _, by have := h.sz; simp; omega⟩
theorem ShE.At.set2 {e : ShE} (k : e.Ok) {x y : Bool} {V : World} (h : e.At x y V) : e.At x true (V.setCell ⟨e.B2, 0, none⟩ (.int .u64 e.p2')) := by
  have h1 := k.c1
  have h2 := k.c2
  have h3 := k.c3
  have h4 := k.c4
  have h6 := k.b2
  have h7 := k.b12
  exact ⟨h.q.other (by omega) _, h.one.other (by omega) _, h.two.set _, h.from'.trans ((KeepsOthers.setCell _ _ _).from _), h.kp.trans ⟨(Below.refl _ V).setCell (p := ⟨e.B2, 0, none⟩) (by simp; omega) _, Below.heap_setCell V _ _ _ (by simp; omega), Below.heap_setCell V _ _ _ (by simp; omega), Below.heap_setCell V _ _ _ (by simp; omega), Below.heap_setCell V _ _ _ (by simp; omega)⟩, h.bl.setCell (p := ⟨e.B2, 0, none⟩) (by simp; omega) _, by have := h.sz; simp; omega⟩
/-- .. told by what was listed. -/
def ShE.C (e : ShE) (D : Array Bool) (V : World) : Prop := e.At (D.getD 8 false) (D.getD 9 false) V
theorem ShE.C.grown {e : ShE} (k : e.Ok) {D : Array Bool} {V V' : World} (h : e.C D V) (hg : V.grownBy V' none) (i : Nat) (h8 : i ≠ 8) (h9 : i ≠ 9) : e.C (D.setIfInBounds i true) V' := by
  unfold ShE.C
  rw [getD_set_ne false h8, getD_set_ne false h9]
  exact ShE.At.grown k h hg
theorem ShE.C.set1 {e : ShE} (k : e.Ok) {D : Array Bool} {V : World} (h : e.C D V) (hs : D.size = 10) : e.C (D.setIfInBounds 8 true) (V.setCell ⟨e.B1, 0, none⟩ (.int .u64 e.p1')) := by
  unfold ShE.C
  rw [getD_set_ne false (show 8 ≠ 9 by omega), show (D.setIfInBounds 8 true).getD 8 false = true by simp [hs]]
  exact ShE.At.set1 k h
theorem ShE.C.set2 {e : ShE} (k : e.Ok) {D : Array Bool} {V : World} (h : e.C D V) (hs : D.size = 10) : e.C (D.setIfInBounds 9 true) (V.setCell ⟨e.B2, 0, none⟩ (.int .u64 e.p2')) := by
  unfold ShE.C
  rw [getD_set_ne false (show 9 ≠ 8 by omega), show (D.setIfInBounds 9 true).getD 9 false = true by simp [hs]]
  exact ShE.At.set2 k h
theorem ShE.C.one {e : ShE} {D : Array Bool} {V : World} (h : e.C D V) (h8 : D.getD 8 false = false) : Boxed V e.B1 22 (.int .u64 e.p1) := by
  have := ShE.At.one h
  rw [h8] at this
  exact this
theorem ShE.C.two {e : ShE} {D : Array Bool} {V : World} (h : e.C D V) (h9 : D.getD 9 false = false) : Boxed V e.B2 22 (.int .u64 e.p2) := by
  have := ShE.At.two h
  rw [h9] at this
  exact this
theorem shareV_of (q : Int) (xs : List Int) (i : Nat) (at_ : Int) : ∃ x e : Int, invRes (prodI q ((othersI q xs i at_).map (·.1))) q = .tuple #[.int .u64 x, .int .i64 e] ∧ shareV q xs i at_ = .tuple #[.int .u64 x, .int .u64 (prodI q ((othersI q xs i at_).map (·.2))), .int .i64 e] := by
  unfold shareV invRes
  split
  · exact ⟨_, _, rfl, rfl⟩
  · exact ⟨_, _, rfl, rfl⟩
theorem others_bx (A : Option Addr) (n c : Nat) (i at_ q : Int) (w : World) :
    Calls Tryz.prog 122 #[.slice A n c, .int .i64 i, .int .u64 at_, .int .u64 q] w fun e w' => e = .returned (.func (.func 133) #[] #[.pointer (some ⟨w.heap.size, 0, none⟩), .pointer (some ⟨w.heap.size + 1, 0, none⟩), .pointer (some ⟨w.heap.size + 1 + 1 + 1, 0, none⟩), .pointer (some ⟨w.heap.size + 1 + 1, 0, none⟩)]) ∧ (Boxed w' w.heap.size 25 (.slice A n c) ∧ Boxed w' (w.heap.size + 1) 3 (.int .i64 i) ∧ Boxed w' (w.heap.size + 1 + 1) 22 (.int .u64 at_) ∧ Boxed w' (w.heap.size + 1 + 1 + 1) 22 (.int .u64 q) ∧ w.grownBy w' none ∧ w'.heap.size = w.heap.size + 1 + 1 + 1 + 1) :=
  (others_any A n c i at_ q w).mono fun _ _ h => ⟨h.1, four_boxes _ _ _ _ _ _ _ _ _ _ h.2⟩
theorem twoB_one (w : World) (q : Int) : TwoB w (((w.alloc (.cells #[.int .u64 q] 22)).alloc (.cells #[.int .u64 (1 % q)] 22)).alloc (.cells #[.int .u64 (1 % q)] 22)).drew q (w.heap.size + 1) (w.heap.size + 1 + 1) := by
  have b1 := (Boxed.new (w.alloc (.cells #[.int .u64 q] 22)) 22 (.int .u64 (1 % q))).alloc (.cells #[.int .u64 (1 % q)] 22)
  have b2 := Boxed.new ((w.alloc (.cells #[.int .u64 q] 22)).alloc (.cells #[.int .u64 (1 % q)] 22)) 22 (.int .u64 (1 % q))
  simp only [World.size_alloc] at b1 b2
  exact ⟨by omega, by omega, by omega, (((Boxed.new w 22 (.int .u64 q)).alloc _).alloc _), b1, b2, grownBy_drewN (((World.grownBy_alloc w _ none).trans (World.grownBy_alloc _ _ none)).trans (World.grownBy_alloc _ _ none)) 1⟩
theorem twoB_two (w : World) (q : Int) : TwoB w (((w.alloc (.cells #[.int .u64 q] 22)).alloc (.cells #[.int .u64 (1 % q)] 22)).alloc (.cells #[.int .u64 (1 % q)] 22)).drew q (w.heap.size + 1 + 1) (w.heap.size + 1) := by
  obtain ⟨h1, h2, h3, h4, h5, h6, h7⟩ := twoB_one w q
  exact ⟨h2, h1, h3.symm, h4, h6, h5, h7⟩
set_option maxRecDepth 100000 in
set_option maxHeartbeats 2000000 in
theorem polyShare_any (v : Value) (xs : List Int) (i : Nat) (at_ q : Int) (X : Nat → Prop) (w : World) (hxs : Sl encU X w v xs) (hi : i < xs.length) (hu : U64 at_) (hq : mayB q = true) :
    Calls Tryz.prog 103 #[v, .int .i64 i, .int .u64 at_, .int .u64 q] w fun e w' => e = .returned (shareV q xs i at_) ∧ w.grownBy w' none := by
  have HQ := Lib.hid hq
  simp [mayB] at hq
  obtain ⟨hq0, hq1⟩ := hq
  have hqn : ¬ q = 0 := by omega
  have HX := Lib.hid hxs
  have HI := Lib.hid hi
  have HU := Lib.hid hu
  have HR := Lib.hid (emod_bd 1 q hq0)
  have HT : Hid (Int.tmod 1 q = 1 % q) := Lib.hid (Int.tmod_eq_emod_of_nonneg (by decide))
  obtain ⟨A1, c1, rfl, _, _⟩ := hxs.form
  obtain ⟨rx, re, hre, hrs⟩ := shareV_of q xs i at_
  rw [hrs]
  have HRE := Lib.hid hre
  clear hxs hi hu hre hrs
  refine (callsIn_wide (n := 4)).1 ?_
  refine callsIn_of_wp_marks Tryz.func103 rfl trivial ?_ rfl
  refine wpIn_wide.2 ?_
  simp only [Tryz.ntmps103, List.size_toArray, List.length_cons, List.length_nil, Nat.reduceAdd, Nat.reduceSub, Array.replicate_succ, Array.replicate_zero, List.push_toArray, List.append_toArray, List.nil_append, List.cons_append]
  go_upto_region 1 with fail
  go_cut [11, 12] from 17 to 20 (fun s11 s12 wx => ∃ B1 B2 : Nat, s11 = .pointer (some ⟨B1, 0, none⟩) ∧ s12 = .pointer (some ⟨B2, 0, none⟩) ∧ Hid (TwoB w wx q B1 B2))
  case first =>
    go_region_held3 (fun w' => w'.cell? ⟨w.heap.size, 0, none⟩ = some (.int .u64 q)) (go_keep) (fail)
    all_goals (go_wp2_with fail)
    all_goals (rw [HT.out]; go_meet)
    · exact ⟨_, _, rfl, rfl, Lib.hid (twoB_one w q)⟩
    · exact ⟨_, _, rfl, rfl, Lib.hid (twoB_two w q)⟩
  case rest =>
    obtain ⟨B1, B2, rfl, rfl, HB⟩ := hcut
    rename World => wc
    obtain ⟨kb1, kb2, kb12, kq, kp1, kp2, kg⟩ := HB.out
    have kqc := kq.cell
    have HC : Hid (TwoB w wc q B1 B2) := HB
    have HW : Hid (w.grownBy wc none) := Lib.hid kg
    clear HB kq kp1 kp2 kg
    have hlen : xs.length ≤ c1 := by assumption
    go_wp2_with ((with_reducible refine (others_bx A1 xs.length c1 i at_ q wc).mono ?_); rintro e W0 ⟨rfl, hW0⟩)
    have HD := Lib.hid hW0
    clear hW0
    have HB1 : Hid (Boxed W0 B1 22 (.int .u64 (1 % q)) ∧ Boxed W0 B2 22 (.int .u64 (1 % q)) ∧ Boxed W0 w.heap.size 22 (.int .u64 q) ∧ Below w.heap.size w W0 ∧ B1 < wc.heap.size ∧ B2 < wc.heap.size ∧ w.heap.size ≤ wc.heap.size) := by
      obtain ⟨_, _, _, z4, z1, z2, z3⟩ := HC.out
      have hg := HD.out.2.2.2.2.1
      exact Lib.hid ⟨z1.kept hg (by simp), z2.kept hg (by simp), z4.kept hg (by simp), below_grown (HW.out.trans hg), z1.lt, z2.lt, HW.out.size⟩
    have hs0 : W0.heap.size = wc.heap.size + 1 + 1 + 1 + 1 := HD.out.2.2.2.2.2
    have hs1 := HB1.out.2.2.2.2.1
    have hs2 := HB1.out.2.2.2.2.2.1
    have hs3 := HB1.out.2.2.2.2.2.2
    refine (wpIn_wide (n := 3)).1 ?_
    refine wpIn_rangeFunc_goes rfl (by omega) (gf := 133) (lb := #[.pointer (some ⟨wc.heap.size, 0, none⟩), .pointer (some ⟨wc.heap.size + 1, 0, none⟩), .pointer (some ⟨wc.heap.size + 1 + 1 + 1, 0, none⟩), .pointer (some ⟨wc.heap.size + 1 + 1, 0, none⟩)]) rfl trivial (enters_of Tryz.func133 (by kernel_rfl) rfl)
      (others_goes (3 - 1) (by omega) _ _ _ _ _ xs i at_ q X w W0 HB1.out.2.2.2.1 HD.out.1 HD.out.2.1 HD.out.2.2.2.1 HD.out.2.2.1 HX.out HI.out HU.out) Kp4.trans (Kp4.b (by omega) (by omega) (by omega) (by omega) (by omega)) (Below.refl _ _) (fun _ => rfl)
      (fun pre W => Boxed W w.heap.size 22 (.int .u64 q) ∧ Boxed W B1 22 (.int .u64 (prodI q (pre.map (·.1)))) ∧ Boxed W B2 22 (.int .u64 (prodI q (pre.map (·.2)))) ∧ Below w.heap.size w W ∧ W0.heap.size ≤ W.heap.size)
      (fun pre X' Y row hs hg hrow => by
        obtain ⟨s1, s2, s3, s4, s5⟩ := hs
        have hr' := fun r e => (hrow r e).2
        exact ⟨s1.kept hg (boxNe s1 hr'), s2.kept hg (boxNe s2 hr'), s3.kept hg (boxNe s3 hr'), s4.grown hg s4.size (fun k e => by have := (hrow k e).1; omega), Nat.le_trans s5 hg.size⟩)
      ⟨HB1.out.2.2.1, HB1.out.1, HB1.out.2.1, HB1.out.2.2.2.1, Nat.le_refl _⟩
      (fun e a' W => (U64 e.1 ∧ U64 e.2) ∧ a' = { tmps := #[.slice A1 xs.length c1, .int .i64 i, .int .u64 at_, .int .u64 q, undef, undef, undef, .pointer (some ⟨w.heap.size, 0, none⟩), .int .u64 0, .int .u64 0, .int .i64 0, .pointer (some ⟨B1, 0, none⟩), .pointer (some ⟨B2, 0, none⟩), .int .u64 e.1, .int .u64 e.2, undef, undef, u17, u18, u19, u20, .slice A1 xs.length c1, .int .i64 i, .int .u64 at_, .int .u64 q, .func (.func 133) #[] #[.pointer (some ⟨wc.heap.size, 0, none⟩), .pointer (some ⟨wc.heap.size + 1, 0, none⟩), .pointer (some ⟨wc.heap.size + 1 + 1 + 1, 0, none⟩), .pointer (some ⟨wc.heap.size + 1 + 1, 0, none⟩)], .int .u64 e.1, .int .u64 e.2, undef, undef, undef, undef, undef, undef, undef, undef, undef, undef, undef, undef, undef, undef, undef, undef, undef], defers := [] })
      (fun e a' _ X' Y row hs hg hrow => hs)
      ?assign ?body ?done
    case assign =>
      rintro l pre ⟨own, far⟩ W K hi hfx hK
      have hk2 := hK _ W (KeepsFrom.refl _ _) (Kp4.refl _ _ _ _ _ _) hi ⟨hfx, rfl⟩
      clear hK hi hfx
      gi_wp2
      exact hk2
    case body =>
      rintro l pre ⟨own, far⟩ a' W hl ⟨hbq, hb1, hb2, hbl, hws⟩ ⟨⟨hu1, hu2⟩, rfl⟩ hlt
      obtain ⟨p1, hp1⟩ : ∃ p1, p1 = prodI q (pre.map (·.1)) := ⟨_, rfl⟩
      obtain ⟨p2, hp2⟩ : ∃ p2, p2 = prodI q (pre.map (·.2)) := ⟨_, rfl⟩
      rw [← hp1] at hb1
      rw [← hp2] at hb2
      have HSN : Hid (prodI q ((pre ++ [(own, far)]).map (·.1)) = mulI p1 own q ∧ prodI q ((pre ++ [(own, far)]).map (·.2)) = mulI p2 far q) := Lib.hid ⟨by rw [List.map_append, hp1]; exact prodI_snoc _ _ _, by rw [List.map_append, hp2]; exact prodI_snoc _ _ _⟩
      have HP : Hid (U64 p1 ∧ U64 p2 ∧ U64 own ∧ U64 far) := Lib.hid ⟨by rw [hp1]; exact prodI_U64 _ HQ.out _, by rw [hp2]; exact prodI_U64 _ HQ.out _, hu1, hu2⟩
      clear hp1 hp2 hu1 hu2 hlt
      obtain ⟨E, hE⟩ : ∃ E : ShE, E = { w := w, W0 := W0, W := W, q := q, p1 := p1, p2 := p2, p1' := mulI p1 own q, p2' := mulI p2 far q, B1 := B1, B2 := B2, C1 := wc.heap.size, C2 := wc.heap.size + 1, C3 := wc.heap.size + 1 + 1 + 1, C4 := wc.heap.size + 1 + 1 } := ⟨_, rfl⟩
      have HE : Hid (E.Ok ∧ E.p1 = p1 ∧ E.p2 = p2 ∧ E.w = w ∧ E.q = q ∧ E.w.heap.size = w.heap.size ∧ E.B1 = B1 ∧ E.B2 = B2 ∧ E.p1' = mulI p1 own q ∧ E.p2' = mulI p2 far q) := Lib.hid (by subst hE; exact ⟨⟨kb1, kb2, kb12, ⟨hs1, hs2, by show wc.heap.size < W0.heap.size; omega⟩, ⟨by show B1 < wc.heap.size + 1; omega, by show B2 < wc.heap.size + 1; omega, by show wc.heap.size + 1 < W0.heap.size; omega⟩, ⟨by show B1 < wc.heap.size + 1 + 1 + 1; omega, by show B2 < wc.heap.size + 1 + 1 + 1; omega, by show wc.heap.size + 1 + 1 + 1 < W0.heap.size; omega⟩, ⟨by show B1 < wc.heap.size + 1 + 1; omega, by show B2 < wc.heap.size + 1 + 1; omega, by show wc.heap.size + 1 + 1 < W0.heap.size; omega⟩⟩, rfl, rfl, rfl, rfl, rfl, rfl, rfl, rfl, rfl⟩)
      have HC0 : Hid (∀ D : Array Bool, D.getD 8 false = false → D.getD 9 false = false → E.C D W.drew) := Lib.hid (fun D h8 h9 => by
        subst hE
        unfold ShE.C
        rw [h8, h9]
        exact ⟨hbq, hb1, hb2, (keeps_none (grown_drewN' W 1)).from _, Kp4.grown (grown_drewN' W 1) (by show w.heap.size ≤ W.heap.size; omega) (by show wc.heap.size < W.heap.size; omega) (by show wc.heap.size + 1 < W.heap.size; omega) (by show wc.heap.size + 1 + 1 + 1 < W.heap.size; omega) (by show wc.heap.size + 1 + 1 < W.heap.size; omega), hbl.trans ((below_grown (grown_drewN' W 1)).mono (by show w.heap.size ≤ W.heap.size; omega)), hws⟩)
      have HF : Hid (∀ D V, D.getD 8 false = true → D.getD 9 false = true → E.C D V → KeepsFrom W0.heap.size W V ∧ Kp4 w.heap.size wc.heap.size (wc.heap.size + 1) (wc.heap.size + 1 + 1 + 1) (wc.heap.size + 1 + 1) W V ∧ Boxed V w.heap.size 22 (.int .u64 q) ∧ Boxed V B1 22 (.int .u64 (prodI q ((pre ++ [(own, far)]).map (·.1)))) ∧ Boxed V B2 22 (.int .u64 (prodI q ((pre ++ [(own, far)]).map (·.2)))) ∧ Below w.heap.size w V ∧ W0.heap.size ≤ V.heap.size) := Lib.hid (fun D V h8 h9 h => by
        rw [HSN.out.1, HSN.out.2]
        subst hE
        unfold ShE.C at h
        rw [h8, h9] at h
        exact ⟨h.from', h.kp, h.q, ShE.At.one h, ShE.At.two h, h.bl, h.sz⟩)
      clear hE hbq hb1 hb2 hbl hws
      dsimp only
      gi_wp2
      refine wpIn_round_any (l0 := l) (R := fun _ V => KeepsFrom W0.heap.size W V ∧ Kp4 w.heap.size wc.heap.size (wc.heap.size + 1) (wc.heap.size + 1 + 1 + 1) (wc.heap.size + 1 + 1) W V ∧ Boxed V w.heap.size 22 (.int .u64 q) ∧ Boxed V B1 22 (.int .u64 (prodI q ((pre ++ [(own, far)]).map (·.1)))) ∧ Boxed V B2 22 (.int .u64 (prodI q ((pre ++ [(own, far)]).map (·.2)))) ∧ Below w.heap.size w V ∧ W0.heap.size ≤ V.heap.size) (by kernel_rfl) (by kernel_rfl) (fun a w h => ⟨rfl, h⟩) ?_
      refine wpAny_flag 10 E.C [.int .u64 p1, .int .u64 own, .int .u64 q, .int .u64 (mulI p1 own q), .int .u64 p2, .int .u64 far, .int .u64 q, .int .u64 (mulI p2 far q), undef, undef] (by kernel_rfl) rfl (HC0.out _ (by kernel_rfl) (by kernel_rfl)) ?_ ?_
      -- op 0 (slot 28): load
      refine FlagR.step [] (by kernel_rfl) (fun D V hsz hD hav hC => ?_) ?_
      · refine askc_do rfl fun K hK => ?_
        have hb := (ShE.C.one hC (hav 8 (by kernel_rfl))).cell
        rw [HE.out.2.1, HE.out.2.2.2.2.2.2.1] at hb
        go_simp
        exact hK _ _ rfl rfl (ShE.C.grown HE.out.1 hC (World.grownBy.refl _ none) 0 (by decide) (by decide))
      -- op 1 (slot 29): move
      refine FlagR.step [] (by kernel_rfl) (fun D V hsz hD hav hC => ?_) ?_
      · refine askc_do rfl fun K hK => ?_
        go_simp
        exact hK _ _ rfl rfl (ShE.C.grown HE.out.1 hC (World.grownBy.refl _ none) 1 (by decide) (by decide))
      -- op 2 (slot 30): load
      refine FlagR.step [] (by kernel_rfl) (fun D V hsz hD hav hC => ?_) ?_
      · refine askc_do rfl fun K hK => ?_
        have hb := hC.q.cell
        rw [HE.out.2.2.2.2.1, HE.out.2.2.2.2.2.1] at hb
        go_simp
        exact hK _ _ rfl rfl (ShE.C.grown HE.out.1 hC (World.grownBy.refl _ none) 2 (by decide) (by decide))
      -- op 3 (slot 31): call
      refine FlagR.step [(0, 28), (1, 29), (2, 30)] (by kernel_rfl) (fun D V hsz hD hav hC => ?_) ?_
      · rintro _ rfl
        rintro _ rfl
        rintro _ rfl
        refine askc_do rfl fun K hK => ?_
        go_simp
        refine (mul_gr p1 own q V HP.out.1 HP.out.2.2.1).mono ?_
        rintro e V2 ⟨rfl, hg⟩
        exact hK _ _ rfl rfl (ShE.C.grown HE.out.1 hC hg 3 (by decide) (by decide))
      -- op 4 (slot 32): load
      refine FlagR.step [] (by kernel_rfl) (fun D V hsz hD hav hC => ?_) ?_
      · refine askc_do rfl fun K hK => ?_
        have hb := (ShE.C.two hC (hav 9 (by kernel_rfl))).cell
        rw [HE.out.2.2.1, HE.out.2.2.2.2.2.2.2.1] at hb
        go_simp
        exact hK _ _ rfl rfl (ShE.C.grown HE.out.1 hC (World.grownBy.refl _ none) 4 (by decide) (by decide))
      -- op 5 (slot 33): move
      refine FlagR.step [] (by kernel_rfl) (fun D V hsz hD hav hC => ?_) ?_
      · refine askc_do rfl fun K hK => ?_
        go_simp
        exact hK _ _ rfl rfl (ShE.C.grown HE.out.1 hC (World.grownBy.refl _ none) 5 (by decide) (by decide))
      -- op 6 (slot 34): load
      refine FlagR.step [] (by kernel_rfl) (fun D V hsz hD hav hC => ?_) ?_
      · refine askc_do rfl fun K hK => ?_
        have hb := hC.q.cell
        rw [HE.out.2.2.2.2.1, HE.out.2.2.2.2.2.1] at hb
        go_simp
        exact hK _ _ rfl rfl (ShE.C.grown HE.out.1 hC (World.grownBy.refl _ none) 6 (by decide) (by decide))
      -- op 7 (slot 35): call
      refine FlagR.step [(4, 32), (5, 33), (6, 34)] (by kernel_rfl) (fun D V hsz hD hav hC => ?_) ?_
      · rintro _ rfl
        rintro _ rfl
        rintro _ rfl
        refine askc_do rfl fun K hK => ?_
        go_simp
        refine (mul_gr p2 far q V HP.out.2.1 HP.out.2.2.2).mono ?_
        rintro e V2 ⟨rfl, hg⟩
        exact hK _ _ rfl rfl (ShE.C.grown HE.out.1 hC hg 7 (by decide) (by decide))
      -- op 8 (slot none): store
      refine FlagR.step [(3, 31)] (by kernel_rfl) (fun D V hsz hD hav hC => ?_) ?_
      · rintro _ rfl
        refine askc_do rfl fun K hK => ?_
        have hc0 := ShE.C.one hC (hav 8 (by kernel_rfl))
        have hcc := hc0.cell
        have hcf := hc0.frozen
        rw [HE.out.2.1] at hcc
        rw [HE.out.2.2.2.2.2.2.1] at hcc hcf
        have hfin := ShE.C.set1 HE.out.1 hC hsz
        rw [HE.out.2.2.2.2.2.2.1, HE.out.2.2.2.2.2.2.2.2.1] at hfin
        go_simp
        exact hK _ _ rfl rfl hfin
      -- op 9 (slot none): store
      refine FlagR.step [(7, 35)] (by kernel_rfl) (fun D V hsz hD hav hC => ?_) ?_
      · rintro _ rfl
        refine askc_do rfl fun K hK => ?_
        have hc0 := ShE.C.two hC (hav 9 (by kernel_rfl))
        have hcc := hc0.cell
        have hcf := hc0.frozen
        rw [HE.out.2.2.1] at hcc
        rw [HE.out.2.2.2.2.2.2.2.1] at hcc hcf
        have hfin := ShE.C.set2 HE.out.1 hC hsz
        rw [HE.out.2.2.2.2.2.2.2.1, HE.out.2.2.2.2.2.2.2.2.2] at hfin
        go_simp
        exact hK _ _ rfl rfl hfin
      · trivial
      · intro D V hall hC
        have hfin := HF.out D V (hall 8 (by omega)) (hall 9 (by omega)) hC
        clear hC hall
        intro x0 _ x1 _ x2 _ x3 _ x4 _ x5 _ x6 _ x7 _ x8 _ x9 _
        refine wpList_nil ?_
        exact ⟨rfl, hfin⟩
    case done =>
      rintro D zs W hD rfl ⟨hbq, hb1, hb2, hbl, hws⟩ hK
      have hre := HRE.out
      have HIN := Lib.hid (fun w' => inv_may (prodI q ((othersI q xs i at_).map (·.1))) q w' (prodI_U64 q HQ.out _) HQ.out)
      rw [hre] at HIN
      have c1' := hb1.cell
      have c2' := hb2.cell
      have cq' := hbq.cell
      have HK := Lib.hid (And.intro hbl (And.intro hK hD))
      clear hbq hb1 hb2 hbl hK hre
      go_wp2_with ((with_reducible refine (HIN.out _).mono ?_); rintro e W5 ⟨rfl, n5, rfl⟩)
      go_region_held3 (fun w' => w'.cell? ⟨B2, 0, none⟩ = some (.int .u64 (prodI q ((othersI q xs i at_).map (·.2))))) (go_keep) (fail)
      all_goals (go_wp2_with fail)
      obtain ⟨hbl, hK, hD⟩ := HK.out
      refine ⟨by simp, .inl ⟨_, _, rfl, run_takeDeferred (w := (W.drewN n5).drew) hK, ?_⟩⟩
      have hle : w.heap.size ≤ W0.heap.size := by omega
      have hfin : w.grownBy (((W.drewN n5).drew).putObj D (.deferred none)) none := grownBy_drewN (grown_of_below (hbl.trans (belowK_b (w := W0) hle W D _ (.deferred none) hD hK rfl rfl))) (n5 + 1)
      exact ⟨_, results_tmp3 rfl _ _ _, rfl, hfin⟩
end Go.Proofs.YtnjkelojkoeihaaGreatDoor

namespace Go.Proofs.YtnjkelojkoeihaaGreatDoor
open Go Go.RowKit Go.Shelf Go.Maps

theorem pmay_any (m : Int) (w : World) (hm : U64 m) :
    Calls Tryz.prog 121 #[.int .u64 m] w fun e w' => e = .returned (.bool (mayB m)) ∧ w = w' := by
  have hm0 := hm.1
  have hm1 := hm.2
  clear hm
  by_cases h0 : 0 < m
  · by_cases h1 : m ≤ 2305843009213693952
    · have hr : mayB m = true := by simp [mayB, h0, h1]
      rw [hr]
      clear hr
      have h2 : decide (m ≤ 2305843009213693952) = true := by simpa using h1
      go_enter Tryz.func121, Tryz.ntmps121
      go_wp2
      go_ret
      exact ⟨rfl, rfl⟩
    · have hr : mayB m = false := by simp [mayB, h1]
      rw [hr]
      clear hr
      have h2 : decide (m ≤ 2305843009213693952) = false := by simpa using h1
      go_enter Tryz.func121, Tryz.ntmps121
      go_wp2
      go_ret
      exact ⟨by simp, rfl⟩
  · have hr : mayB m = false := by simp [mayB, h0]
    rw [hr]
    clear hr
    go_enter Tryz.func121, Tryz.ntmps121
    go_wp2
    go_ret
    exact ⟨rfl, rfl⟩
/-- The numbers of a list, each once. -/
def seenL (l : List Int) : List Int := l.foldl (fun s x => bif s.contains x then s else s ++ [x]) []
theorem seenL_snoc (l : List Int) (x : Int) : seenL (l ++ [x]) = bif (seenL l).contains x then seenL l else seenL l ++ [x] := by simp only [seenL, List.foldl_append, List.foldl_cons, List.foldl_nil]
/-- What is wrong with places. -/
def unlikeI (xs : List Int) (q : Int) : Int := if mayB q = false then 1 else if 1024 < xs.length then 40 else if (seenL (xs.map (· % q))).length < xs.length then 6 else 0
theorem lawU : Keyed Tryz.prog 22 := int_keyed Tryz.underlying22
theorem zeroI (w : World) : (zeroValue 3).run Tryz.prog w = .ok (.int .i64 0) w := by kernel_rfl
/-- A map of what was met. -/
def Met' (D : DataW Unit) (pre : List Int) : Prop := Maps.Tidy D ∧ Maps.size D = (seenL pre).length ∧ ∀ x, Maps.has D (.int .u64 x) = (seenL pre).contains x
theorem Met'.nil : Met' (.map []) [] := ⟨tidy_empty, rfl, fun _ => rfl⟩
theorem Met'.put {D : DataW Unit} {pre : List Int} (h : Met' D pre) (x : Int) (d : DataW Unit) : Met' (D.put (.int .u64 x) d) (pre ++ [x]) := by
  obtain ⟨h1, h2, h3⟩ := h
  have hk : WideAt.IsKeyLit (.int .u64 x) := trivial
  refine ⟨h1.put hk d, ?_, fun y => ?_⟩
  · rw [size_put h1, h3 x, seenL_snoc]
    cases (seenL pre).contains x
    · simp [h2]
    · simp [h2]
  · rw [seenL_snoc]
    by_cases e : y = x
    · subst e
      rw [has_put_same h1.isMap hk]
      cases hc : (seenL pre).contains y
      · simp
      · simp only [cond_true, hc]
    · rw [has_put_other (by intro e'; injection e' with _ e'; exact e e'), h3 y]
      cases (seenL pre).contains x
      · have e' : (y == x) = false := by simpa using e
        simp [e]
      · rfl
theorem run_makeMap_hint (n : Int) (w : World) : (Instr.makeMap 156 (some (.int .i64 n))).run Tryz.prog w = .ok (.map (some w.heap.size)) (w.alloc (.map #[] 0)) := by
  simp [Instr.makeMap, run_underlying Tryz.underlying156, asInt, asIntOf, Result.andThen]
set_option maxRecDepth 100000 in
set_option maxHeartbeats 1000000 in
theorem unlike_any (v : Value) (xs : List Int) (q : Int) (X : Nat → Prop) (w : World) (h : Sl encU X w v xs) (hq : U64 q) :
    Calls Tryz.prog 102 #[v, .int .u64 q] w fun e w' => e = .returned (.int .i64 (unlikeI xs q)) ∧ w.grownBy w' none := by
  have H := Lib.hid h
  have HQ := Lib.hid hq
  obtain ⟨A, c, rfl, hc1, hc2⟩ := h.form
  clear h hq
  cases hm : mayB q with
  | false =>
    have hr : unlikeI xs q = 1 := by simp [unlikeI, hm]
    rw [hr]
    have HM := Lib.hid hm
    clear hr hm
    go_enter Tryz.func102, Tryz.ntmps102
    go_wp2_with ((with_reducible refine (pmay_any q _ HQ.out).mono ?_); rw [HM.out]; rintro e w' ⟨rfl, rfl⟩)
    go_ret
    exact ⟨rfl, World.grownBy.refl _ none⟩
  | true =>
    have HM := Lib.hid hm
    have hq0 : 0 < q := by simp [mayB] at hm; exact hm.1
    have hqn : ¬ q = 0 := by omega
    by_cases hl : 1024 < xs.length
    · have hr : unlikeI xs q = 40 := by simp [unlikeI, hm, hl]
      rw [hr]
      clear hr hm
      generalize xs.length = n at *
      go_enter Tryz.func102, Tryz.ntmps102
      go_wp2_with ((with_reducible refine (pmay_any q _ HQ.out).mono ?_); rw [HM.out]; rintro e w' ⟨rfl, rfl⟩)
      go_ret
      exact ⟨rfl, World.grownBy.refl _ none⟩
    · obtain ⟨res, hr⟩ : ∃ res, res = unlikeI xs q := ⟨_, rfl⟩
      have HRES : Hid (res = if (seenL (xs.map (· % q))).length < xs.length then 6 else 0) := Lib.hid (by rw [hr]; simp [unlikeI, hm, hl])
      rw [← hr]
      clear hr hm
      have HR0 : Hid (Met' (.map []) ((xs.take 0).map (· % q))) := Lib.hid Met'.nil
      have HT : Hid (∀ k (hk : k < xs.length), (xs.take (k + 1)).map (· % q) = (xs.take k).map (· % q) ++ [xs[k] % q]) := Lib.hid (fun k hk => by rw [List.take_succ_eq_append_getElem hk, List.map_append]; rfl)
      obtain ⟨n, hn⟩ : ∃ n, n = xs.length := ⟨_, rfl⟩
      have HN := Lib.hid hn
      rw [← hn] at hc1 hl ⊢
      clear hn
      have hmm := @run_makeMap_hint
      go_enter Tryz.func102, Tryz.ntmps102
      go_wp2_with ((with_reducible refine (pmay_any q _ HQ.out).mono ?_); rw [HM.out]; rintro e w' ⟨rfl, rfl⟩)
      go_loopg [21] n (fun g s21 wx => ∃ (k : Nat) (D : DataW Unit), k + g = n ∧ s21 = .int .i64 k ∧ Hid (wx.ownsMap Tryz.prog 22 (plainElem Tryz.prog 3) w.heap.size k D ∧ Met' D ((xs.take k).map (· % q)) ∧ Below w.heap.size w wx))
      case atStart => exact ⟨0, .map [], by omega, rfl, Lib.hid ⟨World.ownsMap_made _ _ _ _, HR0.out, (Below.refl _ _).alloc (Nat.le_refl _) _⟩⟩
      case round =>
        obtain ⟨k, D, hk, rfl, HR⟩ := hrel
        cases gk with
        | zero =>
          obtain rfl : k = n := by omega
          have hsz : Maps.size D = (seenL (xs.map (· % q))).length := by rw [HR.out.2.1.2.1, HN.out, List.take_length]
          have HS := Lib.hid hsz
          have HBL := Lib.hid HR.out.2.2
          have hown := HR.out.1
          clear HR hsz
          by_cases hlt : (seenL (xs.map (· % q))).length < k
          · rw [← HS.out] at hlt
            have hlt' : decide (((Maps.size D : Nat) : Int) < (k : Int)) = true := by simpa using hlt
            go_wp2_with (first | (at_len; refine wpList_len_own _ rfl _ 156 rfl 22 3 Tryz.underlying156 _ w.heap.size k D rfl hown ?_) | go_in)
            go_ret
            exact ⟨by rw [HRES.out, ← HS.out, ← HN.out]; simp [hlt], grown_of_below HBL.out⟩
          · rw [← HS.out] at hlt
            have hlt' : decide (((Maps.size D : Nat) : Int) < (k : Int)) = false := by simpa using hlt
            go_wp2_with (first | (at_len; refine wpList_len_own _ rfl _ 156 rfl 22 3 Tryz.underlying156 _ w.heap.size k D rfl hown ?_) | go_in)
            go_ret
            exact ⟨by rw [HRES.out, ← HS.out, ← HN.out]; simp [hlt], grown_of_below HBL.out⟩
        | succ m =>
          have hkn : (k : Int) < (n : Int) := by omega
          have hkl : k < xs.length := by rw [← HN.out]; omega
          have hown := HR.out.1
          obtain ⟨g, of, c', e, _, _, hcell, hu⟩ := ((H.out.kept (grown_of_below HR.out.2.2)).atU hkl)
          injection e with e1 e2 e3
          subst e1 e3
          have hb := emod_bd xs[k] q hq0
          have HP : Hid (Met' (D.put (.int .u64 (Int.tmod xs[k] q)) (.lit (.int .i64 0))) ((xs.take (k + 1)).map (· % q))) := Lib.hid (by rw [HT.out k hkl, Int.tmod_eq_emod_of_nonneg hu.1]; exact HR.out.2.1.put _ _)
          have hwf : (Lit.int .u64 (Int.tmod xs[k] q)).wf = true := by rw [Int.tmod_eq_emod_of_nonneg hu.1]; exact WalkArith.wf_u64 ⟨hb.1, by have := (emod_U64 xs[k] q hu hq0).2; omega⟩
          have HBL := Lib.hid HR.out.2.2
          have HT' := Lib.hid (HT.out k hkl)
          have HME := Lib.hid HR.out.2.1
          have HUX := Lib.hid hu
          have HWF := Lib.hid hwf
          clear HP HR hb hu hwf
          have HMP : Hid (∀ d, Met' (D.put (.int .u64 (Int.tmod xs[k] q)) d) ((xs.take (k + 1)).map (· % q))) := Lib.hid (fun d => by rw [HT'.out, Int.tmod_eq_emod_of_nonneg HUX.out.1]; exact HME.out.put _ d)
          clear HT' HME HUX
          generalize xs[k] = xk at *
          go_wp2_with (first
            | (at_lookup; refine wpList_lookup_own_int _ rfl _ _ 156 rfl 22 3 .i64 lawU Tryz.underlying156 Tryz.underlying3 (zeroI _) w.heap.size k D rfl hown _ _ rfl (keyOf_int_mk Tryz.underlying22 HWF.out) ?_; intro c0 hat hwc)
            | (at_mapUpdate; refine wpList_mapUpdate_own _ rfl _ _ _ 156 rfl 22 3 lawU Tryz.underlying156 _ w.heap.size k D rfl hown (by unfold maxLen; omega) _ _ _ rfl rfl (keyOf_int_mk Tryz.underlying22 HWF.out) _ [] (plainElem_int Tryz.underlying3 (wrap64_wf _)) ?_; intro w1 hown1 hgrow1)
            | go_in)
          go_roundg m
          case measure => omega
          case rel => exact ⟨k + 1, _, by omega, by go_num, Lib.hid ⟨hown1, HMP.out _, HBL.out.grown hgrow1 HBL.out.size (fun j hj => by cases hj; exact Nat.le_refl _)⟩⟩
end Go.Proofs.YtnjkelojkoeihaaGreatDoor

namespace Go.Proofs.YtnjkelojkoeihaaGreatDoor
open Go Go.RowKit Go.Shelf

def underI (q : Int) (xs : List Int) (at_ : Int) (i : Nat) : Int := prodI q ((othersI q xs i at_).map (·.1))
def overI (q : Int) (xs : List Int) (at_ : Int) (i : Nat) : Int := prodI q ((othersI q xs i at_).map (·.2))
theorem shareV_yes {q : Int} {xs : List Int} {i : Nat} {at_ : Int} (h : HasInv (underI q xs at_ i) q) : shareV q xs i at_ = .tuple #[.int .u64 (invI (underI q xs at_ i) q), .int .u64 (overI q xs at_ i), .int .i64 0] := by
  unfold shareV
  exact if_pos h
theorem shareV_no {q : Int} {xs : List Int} {i : Nat} {at_ : Int} (h : ¬ HasInv (underI q xs at_ i) q) : shareV q xs i at_ = .tuple #[.int .u64 0, .int .u64 (overI q xs at_ i), .int .i64 5] := by
  unfold shareV
  exact if_neg h
/-- A weight. -/
noncomputable def wAt (q : Int) (xs : List Int) (at_ : Int) (i : Nat) : Int := mulI (invI (underI q xs at_ i) q) (overI q xs at_ i) q
open Classical in
/-- What is wrong with weights. -/
noncomputable def wErr (q : Int) (xs : List Int) (at_ : Int) : Int := if unlikeI xs q = 0 then (if ∀ i, i < xs.length → HasInv (underI q xs at_ i) q then 0 else 5) else unlikeI xs q
noncomputable def wList (q : Int) (xs : List Int) (at_ : Int) : List Int := if wErr q xs at_ = 0 then (List.range xs.length).map (wAt q xs at_) else []
theorem unlikeI_zero {xs : List Int} {q : Int} (h : unlikeI xs q = 0) : mayB q = true ∧ xs.length ≤ 1024 := by
  unfold unlikeI at h
  split at h
  · omega
  · split at h
    · omega
    · exact ⟨by simpa using ‹¬ mayB q = false›, by omega⟩
theorem invI_U64 {a q : Int} (hq : mayB q = true) (h : HasInv a q) : U64 (invI a q) := by
  have := invI_spec h
  simp [mayB] at hq
  exact ⟨this.1, by omega⟩
set_option maxRecDepth 100000 in
set_option maxHeartbeats 1000000 in
theorem weights_any (v : Value) (xs : List Int) (at_ q : Int) (X : Nat → Prop) (w : World) (h : Sl encU X w v xs) (hu : U64 at_) (hq : U64 q) :
    Calls Tryz.prog 64 #[v, .int .u64 at_, .int .u64 q] w (GivesE encU (fun g => w.heap.size ≤ g) w (wList q xs at_) (wErr q xs at_)) := by
  have H := Lib.hid h
  have HA := Lib.hid hu
  have HUN := Lib.hid (unlike_any v xs q X w h hq)
  obtain ⟨A, c, rfl, hc1, hc2⟩ := h.form
  clear h hu
  obtain ⟨we, hwe⟩ : ∃ we, we = wErr q xs at_ := ⟨_, rfl⟩
  obtain ⟨wl, hwl⟩ : ∃ wl, wl = wList q xs at_ := ⟨_, rfl⟩
  rw [← hwe, ← hwl]
  have HWL : Hid ((we = 0 → wl = (List.range xs.length).map (wAt q xs at_)) ∧ (¬ we = 0 → wl = [])) := Lib.hid ⟨fun e => by rw [hwl, wList, ← hwe, if_pos e], fun e => by rw [hwl, wList, ← hwe, if_neg e]⟩
  clear hwl
  by_cases hun : unlikeI xs q = 0
  · obtain ⟨hm, hl⟩ := unlikeI_zero hun
    have HM := Lib.hid hm
    have HWE : Hid (((∀ i, i < xs.length → HasInv (underI q xs at_ i) q) → we = 0) ∧ (∀ i, i < xs.length → ¬ HasInv (underI q xs at_ i) q → we = 5)) := Lib.hid ⟨fun e => by rw [hwe, wErr, if_pos hun, if_pos e], fun i hi e => by rw [hwe, wErr, if_pos hun, if_neg (fun hx => e (hx i hi))]⟩
    rw [hun] at HUN
    have HLN : Hid (xs.length ≤ 1024) := Lib.hid hl
    clear hwe hun hm
    go_enter Tryz.func64, Tryz.ntmps64
    go_wp2_with (refine HUN.out.mono ?_; rintro e w1 ⟨rfl, hg1⟩)
    have HG1 := Lib.hid hg1
    clear hg1 HUN
    go_wp2_with fail
    go_loopg [9, 22] xs.length (fun g s9 s22 wx => ∃ j : Nat, j + g = xs.length ∧ s22 = .int .i64 j ∧ Hid (Acc encU w.heap.size 22 (fun g => w.heap.size ≤ g) wx s9 ((List.range j).map (wAt q xs at_)) ∧ w.grownBy wx none ∧ ∀ i, i < j → HasInv (underI q xs at_ i) q))
    case atStart => exact ⟨0, by omega, rfl, Lib.hid ⟨Acc.nil _ _ _ _ _, HG1.out, fun i hi => absurd hi (by omega)⟩⟩
    case round =>
      obtain ⟨j, hj, rfl, HX⟩ := hrel
      cases gk with
      | zero =>
        obtain rfl : j = xs.length := by omega
        have h0 : we = 0 := HWE.out.1 HX.out.2.2
        subst h0
        have HR : Hid (Sl encU (fun g => w.heap.size ≤ g) wr u9 wl ∧ w.grownBy wr none) := Lib.hid ⟨by have := HX.out.1.sl; rwa [← HWL.out.1 rfl] at this, HX.out.2.1⟩
        clear HX HWL HWE
        go_wp2
        go_ret2
        exact ⟨_, rfl, HR.out.1, HR.out.2⟩
      | succ m =>
        have hjn : (j : Int) < (xs.length : Int) := by omega
        have hjN : j < xs.length := by omega
        have HS := Lib.hid (polyShare_any _ xs j at_ q X wr (H.out.kept HX.out.2.1) hjN HA.out HM.out)
        by_cases hi : HasInv (underI q xs at_ j) q
        · rw [shareV_yes hi] at HS
          have HU1 := Lib.hid (invI_U64 HM.out hi)
          have HU2 : Hid (U64 (overI q xs at_ j)) := Lib.hid (prodI_U64 q HM.out _)
          have HU3 : Hid (U64 (wAt q xs at_ j)) := Lib.hid (by have := mulI_bd (invI (underI q xs at_ j) q) (overI q xs at_ j) q HM.out; have h2 := HM.out; simp [mayB] at h2; exact ⟨this.1, by unfold wAt; omega⟩)
          have HSN : Hid ((List.range (j + 1)).map (wAt q xs at_) = (List.range j).map (wAt q xs at_) ++ [wAt q xs at_ j]) := Lib.hid (by simp [List.range_succ])
          have HI : Hid (∀ i, i < j + 1 → HasInv (underI q xs at_ i) q) := Lib.hid (fun i hi' => by
            rcases Nat.lt_or_ge i j with h' | h'
            · exact HX.out.2.2 i h'
            · obtain rfl : i = j := by omega
              exact hi)
          have HAC := Lib.hid HX.out.1
          have HG := Lib.hid HX.out.2.1
          have HLB : Hid ((((List.range j).map (wAt q xs at_)).length + 1) * 8 ≤ 140737488355328) := Lib.hid (by simp; omega)
          clear hi HX
          have hwv : mulI (invI (underI q xs at_ j) q) (overI q xs at_ j) q = wAt q xs at_ j := rfl
          have HMU := Lib.hid (fun w' => mul_gr (invI (underI q xs at_ j) q) (overI q xs at_ j) q w' HU1.out HU2.out)
          rw [hwv] at HMU
          clear hwv
          generalize xs.length = n at *
          go_wp2_with (go_at_call 103; refine HS.out.mono ?_; rintro e2 w2 ⟨rfl, hg2⟩)
          have HG2 := Lib.hid (HG.out.trans hg2)
          have HA2 := Lib.hid (HAC.out.kept hg2)
          clear hg2 HS
          go_wp2_with fail
          refine (HMU.out _).mono ?_
          rintro e3 w3 ⟨rfl, hg3⟩
          have HG3 := Lib.hid (HG2.out.trans hg3)
          have HA3 := Lib.hid (HA2.out.kept hg3)
          clear hg3 HMU
          go_wp2_with (at_builtin; refine wpList_pushG rfl (.tmp 37) (.tmp 42) rfl (E := encU) el_u64 HG3.out HA3.out (fun _ h => h) ⟨rfl, HU3.out⟩ HLB.out rfl rfl ?_)
          intro v2 w4 hacc2 hg4 hgo
          have HFIN : Hid (Acc encU w.heap.size 22 (fun g => w.heap.size ≤ g) w4 v2 ((List.range (j + 1)).map (wAt q xs at_)) ∧ w.grownBy w4 none ∧ ∀ i, i < j + 1 → HasInv (underI q xs at_ i) q) := Lib.hid ⟨by rw [HSN.out]; simpa using hacc2, hg4, HI.out⟩
          clear hacc2 hg4 hgo
          go_wp2_with fail
          go_roundg m
          case measure => omega
          case rel => exact ⟨j + 1, by omega, by go_num, HFIN⟩
        · rw [shareV_no hi] at HS
          have h5 : we = 5 := HWE.out.2 j hjN hi
          subst h5
          have HG := Lib.hid HX.out.2.1
          have HL0 := Lib.hid (HWL.out.2 (by decide))
          clear hi HX HWL HWE
          go_wp2_with (go_at_call 103; refine HS.out.mono ?_; rintro e2 w2 ⟨rfl, hg2⟩)
          have HG2 := Lib.hid (HG.out.trans hg2)
          clear hg2 HS
          go_wp2_with fail
          go_ret2
          exact ⟨_, rfl, by rw [HL0.out]; exact Sl.nil _ _ _, HG2.out⟩
  · have h0 : we = unlikeI xs q := by rw [hwe, wErr, if_neg hun]
    have HL0 := Lib.hid (HWL.out.2 (by rw [h0]; exact hun))
    clear HWL hwe
    rw [← h0] at HUN hun
    clear h0
    go_enter Tryz.func64, Tryz.ntmps64
    go_wp2_with (refine HUN.out.mono ?_; rintro e w1 ⟨rfl, hg1⟩)
    have HG1 := Lib.hid hg1
    clear hg1 HUN
    go_wp2_with fail
    go_ret2
    exact ⟨_, rfl, by rw [HL0.out]; exact Sl.nil _ _ _, HG1.out⟩
end Go.Proofs.YtnjkelojkoeihaaGreatDoor

namespace Go.Proofs.YtnjkelojkoeihaaGreatDoor
open Go Go.RowKit Go.Shelf

/-- Whether K and D are within their bounds. -/
def smallB (p : Par) : Bool := decide (0 ≤ p.K ∧ 0 ≤ p.D ∧ p.K ≤ 2 ∧ p.D ≤ 4)
end Go.Proofs.YtnjkelojkoeihaaGreatDoor

namespace Go.Proofs.YtnjkelojkoeihaaGreatDoor
open Go Go.RowKit Go.Shelf

end Go.Proofs.YtnjkelojkoeihaaGreatDoor

namespace Go.Proofs.YtnjkelojkoeihaaGreatDoor
open Go Go.RowKit Go.Shelf

/-- What numbers come to. -/
def comeU (P : Int) : List Int → List Int → Int → Int
  | x :: l, k :: ks, a => comeU P l ks (timesI P [a, powI x k P])
  | _, _, a => a
theorem comeU_snoc (P : Int) : ∀ (l ks : List Int) (a : Int) (j : Nat) (h : j < l.length) (h' : j < ks.length), comeU P (l.take (j + 1)) (ks.take (j + 1)) a = timesI P [comeU P (l.take j) (ks.take j) a, powI l[j] ks[j] P]
  | x :: l, k :: ks, a, 0, _, _ => by simp [comeU]
  | x :: l, k :: ks, a, j + 1, h, h' => by
    simp only [List.take_succ_cons, comeU, List.getElem_cons_succ]
    exact comeU_snoc P l ks _ j (by simpa using h) (by simpa using h')
end Go.Proofs.YtnjkelojkoeihaaGreatDoor

namespace Go.Proofs.YtnjkelojkoeihaaGreatDoor
open Go Go.RowKit Go.Shelf

theorem comeU_U64 (P : Int) (hU : ∀ l, U64 (timesI P l)) : ∀ (l ks : List Int) (a : Int), U64 a → U64 (comeU P l ks a)
  | [], _, _, h => h
  | _ :: _, [], _, h => h
  | _ :: l, _ :: ks, _, _ => comeU_U64 P hU l ks _ (hU _)
theorem comeU_take (P : Int) : ∀ (l ks : List Int) (a : Int), comeU P l (ks.take l.length) a = comeU P l ks a
  | [], _, _ => by simp [comeU]
  | _ :: _, [], _ => by simp [comeU]
  | x :: l, k :: ks, a => by simp only [List.length_cons, List.take_succ_cons, comeU]; exact comeU_take P l ks _
end Go.Proofs.YtnjkelojkoeihaaGreatDoor

namespace Go.Proofs.YtnjkelojkoeihaaGreatDoor
open Go Go.RowKit

/-- No index. -/
def memBad (i : Int) : Bool := decide (i < 1) || decide (7 < i)
/-- All are indices, and there are some. -/
def membersB (at_ : List Int) : Bool := decide (0 < at_.length) && !at_.any fun i => memBad i
theorem membersB_yes {at_ : List Int} (h : membersB at_ = true) : 0 < at_.length ∧ ∀ i ∈ at_, 1 ≤ i ∧ i ≤ 7 := by
  simp [membersB, memBad] at h
  exact ⟨h.1, fun i hi => h.2 i hi⟩
/-- A list of a column that is too short or too long. -/
def shortB (p : Par) (x : List Int) : Bool := !((x.length : Int) == wrap64 (p.T + 1))
/-- A member's list that is too short or too long. -/
def oddB (p : Par) (x : List (Int × Int)) : Bool := !((x.length : Int) == secretsI p)
end Go.Proofs.YtnjkelojkoeihaaGreatDoor

namespace Go.Proofs.YtnjkelojkoeihaaGreatDoor
open Go.RowKit

theorem zero_pair (w : World) (n : Nat) : ((w.drewN n).alloc (Obj.cells #[.int .u64 0, .int .u64 0] 58)).cell? ⟨w.heap.size, 0, none⟩ = some (.int .u64 0) ∧ ((w.drewN n).alloc (Obj.cells #[.int .u64 0, .int .u64 0] 58)).cell? ⟨w.heap.size, 1, none⟩ = some (.int .u64 0) ∧
    ((w.drewN n).alloc (Obj.cells #[.int .u64 0, .int .u64 0] 58)).frozen? ⟨w.heap.size, 0, none⟩ = false ∧ ((w.drewN n).alloc (Obj.cells #[.int .u64 0, .int .u64 0] 58)).frozen? ⟨w.heap.size, 1, none⟩ = false :=
  have h : Bk ((w.drewN n).alloc (Obj.cells #[.int .u64 0, .int .u64 0] 58)) w.heap.size 58 #[.int .u64 0, .int .u64 0] := Bk.new (w.drewN n) _ _
  ⟨h.cell 0, h.cell 1, h.free 0, h.free 1⟩
theorem pair_made (w : World) (n : Nat) (a b : Int) : w.grownBy ((((w.drewN n).alloc (Obj.cells #[.int .u64 0, .int .u64 0] 58)).setCell ⟨w.heap.size, 0, none⟩ (.int .u64 a)).setCell ⟨w.heap.size, 1, none⟩ (.int .u64 b)) none ∧
    Bk ((((w.drewN n).alloc (Obj.cells #[.int .u64 0, .int .u64 0] 58)).setCell ⟨w.heap.size, 0, none⟩ (.int .u64 a)).setCell ⟨w.heap.size, 1, none⟩ (.int .u64 b)) w.heap.size 58 #[.int .u64 a, .int .u64 b] := by
  have h0 : Bk ((w.drewN n).alloc (Obj.cells #[.int .u64 0, .int .u64 0] 58)) w.heap.size 58 #[.int .u64 0, .int .u64 0] := Bk.new (w.drewN n) _ _
  have g0 : w.grownBy ((w.drewN n).alloc (Obj.cells #[.int .u64 0, .int .u64 0] 58)) none := (grownBy_drewN (World.grownBy.refl w none) n).trans (World.grownBy_alloc _ _ none)
  refine ⟨?_, (h0.set 0 _).set 1 _⟩
  have g1 := grown_up g0 (grownBy_set (World.grownBy.refl _ (some w.heap.size)) 0 (.int .u64 a)) (by intro g e; injection e with e; omega)
  exact grown_up g1 (grownBy_set (World.grownBy.refl _ (some w.heap.size)) 1 (.int .u64 b)) (by intro g e; injection e with e; omega)
theorem pair_made2 (w : World) (n m : Nat) (a b : Int) : w.grownBy (((((w.drewN n).alloc (Obj.cells #[.int .u64 0, .int .u64 0] 58)).drewN m).setCell ⟨w.heap.size, 0, none⟩ (.int .u64 a)).setCell ⟨w.heap.size, 1, none⟩ (.int .u64 b)) none ∧
    Bk (((((w.drewN n).alloc (Obj.cells #[.int .u64 0, .int .u64 0] 58)).drewN m).setCell ⟨w.heap.size, 0, none⟩ (.int .u64 a)).setCell ⟨w.heap.size, 1, none⟩ (.int .u64 b)) w.heap.size 58 #[.int .u64 a, .int .u64 b] := by
  have h0 : Bk (((w.drewN n).alloc (Obj.cells #[.int .u64 0, .int .u64 0] 58)).drewN m) w.heap.size 58 #[.int .u64 0, .int .u64 0] := (Bk.new (w.drewN n) _ _).drewN m
  have g0 : w.grownBy (((w.drewN n).alloc (Obj.cells #[.int .u64 0, .int .u64 0] 58)).drewN m) none := grownBy_drewN ((grownBy_drewN (World.grownBy.refl w none) n).trans (World.grownBy_alloc _ _ none)) m
  refine ⟨?_, (h0.set 0 _).set 1 _⟩
  have g1 := grown_up g0 (grownBy_set (World.grownBy.refl _ (some w.heap.size)) 0 (.int .u64 a)) (by intro g e; injection e with e; omega)
  exact grown_up g1 (grownBy_set (World.grownBy.refl _ (some w.heap.size)) 1 (.int .u64 b)) (by intro g e; injection e with e; omega)
theorem bkDrawn {w : World} {g : Nat} {t : TypeId} {cs : Array Value} (h : Hid (Bk w g t cs)) (n : Nat) : Hid (Bk (w.drewN n) g t cs) := Lib.hid (h.out.drewN n)
end Go.Proofs.YtnjkelojkoeihaaGreatDoor

namespace Go.Proofs.YtnjkelojkoeihaaGreatDoor
open Go Go.RowKit

end Go.Proofs.YtnjkelojkoeihaaGreatDoor

namespace Go.Proofs.YtnjkelojkoeihaaGreatDoor
open Go Go.RowKit

/-- What pairs come to. -/
def comeP (Q : Int) : List (Int × Int) → List Int → Int × Int → Int × Int
  | x :: l, k :: ks, a => comeP Q l ks (addI a.1 (mulI x.1 k Q) Q, addI a.2 (mulI x.2 k Q) Q)
  | _, _, a => a
theorem comeP_snoc (Q : Int) : ∀ (l : List (Int × Int)) (ks : List Int) (a : Int × Int) (j : Nat) (h : j < l.length) (h' : j < ks.length), comeP Q (l.take (j + 1)) (ks.take (j + 1)) a = (addI (comeP Q (l.take j) (ks.take j) a).1 (mulI l[j].1 ks[j] Q) Q, addI (comeP Q (l.take j) (ks.take j) a).2 (mulI l[j].2 ks[j] Q) Q)
  | x :: l, k :: ks, a, 0, _, _ => by simp [comeP]
  | x :: l, k :: ks, a, j + 1, h, h' => by
    simp only [List.take_succ_cons, comeP, List.getElem_cons_succ]
    exact comeP_snoc Q l ks _ j (by simpa using h) (by simpa using h')
theorem comeP_take (Q : Int) : ∀ (l : List (Int × Int)) (ks : List Int) (a : Int × Int), comeP Q l (ks.take l.length) a = comeP Q l ks a
  | [], _, _ => by simp [comeP]
  | _ :: _, [], _ => by simp [comeP]
  | x :: l, k :: ks, a => by simp only [List.length_cons, List.take_succ_cons, comeP]; exact comeP_take Q l ks _
end Go.Proofs.YtnjkelojkoeihaaGreatDoor

namespace Go.Proofs.YtnjkelojkoeihaaGreatDoor
open Go Go.RowKit

/-- What is wrong with a sum. -/
noncomputable def sumE (p : Par) (at_ : List Int) (l : List (List (Int × Int))) : Int := if smallB p && membersB at_ && at_.length == l.length && !l.any (fun x => oddB p x) then wErr p.Q at_ 0 else 1
/-- What pairs of members come to. -/
noncomputable def sumL (p : Par) (at_ : List Int) (l : List (List (Int × Int))) : List (Int × Int) := if sumE p at_ l = 0 then (List.range (secretsI p).toNat).map fun s => comeP p.Q (l.map fun x => x[s]?.getD (0, 0)) (wList p.Q at_ 0) (0, 0) else []
theorem wrap64_small {n : Int} (h : -9223372036854775808 ≤ n ∧ n ≤ 9223372036854775807) : wrap64 n = n := by unfold wrap64; omega
theorem addI_u64 (a b m : Int) (hm : mayB m = true) : U64 (addI a b m) := by
  unfold addI
  rw [if_pos hm]
  simp [mayB] at hm
  have h1 := Int.emod_nonneg (a % m + b % m) (show m ≠ 0 by omega)
  have h2 := Int.emod_lt_of_pos (a % m + b % m) hm.1
  exact ⟨h1, by omega⟩
theorem comeP_U64 (Q : Int) (h : ∀ x y, U64 (addI x y Q)) : ∀ (l : List (Int × Int)) (ks : List Int) (a : Int × Int), U64 a.1 → U64 a.2 → U64 (comeP Q l ks a).1 ∧ U64 (comeP Q l ks a).2
  | [], _, _, h1, h2 => ⟨h1, h2⟩
  | _ :: _, [], _, h1, h2 => ⟨h1, h2⟩
  | _ :: l, _ :: ks, _, _, _ => comeP_U64 Q h l ks _ (h _ _) (h _ _)
theorem smallB_secrets {p : Par} (h : smallB p = true) : 0 ≤ secretsI p ∧ secretsI p ≤ 10 := by
  simp [smallB] at h
  obtain ⟨h1, h2, h3, h4⟩ := h
  have e1 : wrap64 (p.D + 1) = p.D + 1 := wrap64_small (by omega)
  have h5 : 0 ≤ p.K * (p.D + 1) := Int.mul_nonneg h1 (by omega)
  have h6 : p.K * (p.D + 1) ≤ 2 * 5 := Int.mul_le_mul h3 (by omega) (by omega) (by omega)
  have e2 : secretsI p = p.K * (p.D + 1) := by unfold secretsI; rw [e1]; exact wrap64_small (by omega)
  rw [e2]
  omega
end Go.Proofs.YtnjkelojkoeihaaGreatDoor

namespace Go.Proofs.YtnjkelojkoeihaaGreatDoor
open Go Go.RowKit

/-- The whole number of a number. -/
def fixI (x q : Int) : Int := if q = 0 then 0 else if addI x 0 q ≤ (q - 1) / 2 then addI x 0 q else addI x 0 q - q
end Go.Proofs.YtnjkelojkoeihaaGreatDoor

namespace Go.Proofs.YtnjkelojkoeihaaGreatDoor
open Go Go.RowKit

/-- What a dealer dealt: the dealer, and lists of commitments. -/
def encD : Enc (Int × List (List Int)) where
  size := 2
  pos := by decide
  rep := fun X w cs d => ∃ v, cs = [.int .i64 d.1, v] ∧ I64 d.1 ∧ Sl (encS encU) X w v d.2
  len := fun h => by obtain ⟨v, rfl, _⟩ := h; rfl
  ones := fun h u hu => by
    obtain ⟨v, rfl, _, A, c, rfl, _⟩ := h
    simp at hu
    rcases hu with rfl | rfl <;> rfl
  keep := fun h hg hX => by obtain ⟨v, e, i, h⟩ := h; exact ⟨v, e, i, h.keep hg hX⟩
  more := fun h hX => by obtain ⟨v, e, i, h⟩ := h; exact ⟨v, e, i, h.more hX⟩
  keepc := fun h hg hr => by obtain ⟨v, e, i, h⟩ := h; exact ⟨v, e, i, h.keepc hg hr⟩
theorem Sl.atD {X : Nat → Prop} {w : World} {v : Value} {xs : List (Int × List (List Int))} (h : Sl encD X w v xs) {k : Nat} (hk : k < xs.length) :
    ∃ g o c u, v = .slice (some ⟨g, o, none⟩) xs.length c ∧ g < w.heap.size ∧ X g ∧ w.cell? ⟨g, o + k * 2, none⟩ = some (.int .i64 xs[k].1) ∧ w.cell? ⟨g, o + k * 2 + 1, none⟩ = some u ∧ I64 xs[k].1 ∧ Sl (encS encU) X w u xs[k].2 := by
  obtain ⟨g, o, c, cs, e, hg, hX, ⟨u, rfl, hi, hu⟩, hc⟩ := h.at hk
  exact ⟨g, o, c, u, e, hg, hX, hc 0 _ rfl, hc 1 _ rfl, hi, hu⟩
/-- What is wrong with commitments put together. -/
noncomputable def comsE (p : Par) (deals : List (Int × List (List Int))) : Int :=
  if smallB p && decide (0 ≤ p.T ∧ p.T ≤ 2) && !deals.any (fun d => !((d.2.length : Int) == secretsI p) || d.2.any (shortB p)) && membersB (deals.map (·.1)) then wErr p.Q (deals.map (·.1)) 0 else 1
/-- .. and what they come to. -/
noncomputable def comsL (p : Par) (deals : List (Int × List (List Int))) : List (List Int) :=
  if comsE p deals = 0 then (List.range (secretsI p).toNat).map fun s => (List.range (p.T + 1).toNat).map fun j => comeU p.P (deals.map fun d => (d.2[s]?.getD [])[j]?.getD 0) (wList p.Q (deals.map (·.1)) 0) (timesI p.P []) else []
end Go.Proofs.YtnjkelojkoeihaaGreatDoor

namespace Go.Proofs.YtnjkelojkoeihaaGreatDoor
open Go Go.RowKit

theorem info_int : (Tryz.prog.info? 3).map (fun i => (i.zero, i.size, i.bytes)) = some (some (.int .i64 0), 1, 8) := by kernel_rfl
theorem el_int : ElemOk Tryz.prog 44 3 1 8 := ElemOk.mk' (by decide) Tryz.underlying44 info_int rfl
/-- A dealing that is not as long as it should be. -/
def badB (p : Par) (d : Int × List (List Int)) : Bool := !((d.2.length : Int) == secretsI p) || d.2.any (shortB p)
/-- Two lists built side by side: numbers, and lists of lists that lay there ahead. -/
structure Two (base : Nat) (wx : World) (v6 v7 : Value) (xs : List Int) (cs : List (List (List Int))) : Prop where
  fst : Acc encI base 3 (fun g => base ≤ g ∧ some g ≠ v7.ownBlock) wx v6 xs
  snd : Acc (encS (encS encU)) base 34 (fun g => g < base ∨ some g ≠ v6.ownBlock) wx v7 cs
theorem Two.kept {base : Nat} {wx w' : World} {v6 v7 : Value} {xs : List Int} {cs : List (List (List Int))} (h : Two base wx v6 v7 xs cs) (hg : wx.grownBy w' none) : Two base w' v6 v7 xs cs := ⟨h.fst.kept hg, h.snd.kept hg⟩
theorem Two.one {base : Nat} {wx w' : World} {v6 v7 v6' : Value} {xs xs' : List Int} {cs : List (List (List Int))} (h : Two base wx v6 v7 xs cs) (ha : Acc encI base 3 (fun g => base ≤ g ∧ some g ≠ v7.ownBlock) w' v6' xs') (hg : wx.grownBy w' v6.ownBlock) (hm : Moved wx v6 v6') : Two base w' v6' v7 xs' cs := by
  refine ⟨ha, ?_⟩
  have h1 : Acc (encS (encS encU)) base 34 (fun g => (g < base ∨ some g ≠ v6'.ownBlock) ∧ some g ≠ v6.ownBlock) wx v7 cs := h.snd.more fun g hg hx => by
    rcases hx with hx | hx
    · exact ⟨.inl hx, fun e => by have := (h.fst.lt g e.symm).1; omega⟩
    · exact ⟨.inr fun e => hm.ne hg (fun e' => hx e'.symm) e.symm, hx⟩
  exact (h1.keep hg fun g hx => hx.2).more fun g _ hx => hx.1
theorem Two.two {base : Nat} {wx w' : World} {v6 v7 v7' : Value} {xs : List Int} {cs cs' : List (List (List Int))} (h : Two base wx v6 v7 xs cs) (ha : Acc (encS (encS encU)) base 34 (fun g => g < base ∨ some g ≠ v6.ownBlock) w' v7' cs') (hg : wx.grownBy w' v7.ownBlock) (hm : Moved wx v7 v7') : Two base w' v6 v7' xs cs' := by
  refine ⟨?_, ha⟩
  have h1 : Acc encI base 3 (fun g => (base ≤ g ∧ some g ≠ v7'.ownBlock) ∧ some g ≠ v7.ownBlock) wx v6 xs := h.fst.more fun g hg hx => ⟨⟨hx.1, fun e => hm.ne hg (fun e' => hx.2 e'.symm) e.symm⟩, hx.2⟩
  exact (h1.keep hg fun g hx => hx.2).more fun g _ hx => hx.1
theorem Two.lt6 {base : Nat} {wx : World} {v6 v7 : Value} {xs : List Int} {cs : List (List (List Int))} (h : Two base wx v6 v7 xs cs) : ∀ g, wx.heap.size ≤ g → g < base ∨ some g ≠ v6.ownBlock := fun g hg => .inr fun e => by have := (h.fst.lt g e.symm).2; omega
theorem Two.lt7 {base : Nat} {wx : World} {v6 v7 : Value} {xs : List Int} {cs : List (List (List Int))} (h : Two base wx v6 v7 xs cs) (hb : base ≤ wx.heap.size) : ∀ g, wx.heap.size ≤ g → base ≤ g ∧ some g ≠ v7.ownBlock := fun g hg => ⟨by omega, fun e => by have := (h.snd.lt g e.symm).2; omega⟩
theorem Two.hZ {base : Nat} {wx : World} {v6 v7 : Value} {xs : List Int} {cs : List (List (List Int))} (h : Two base wx v6 v7 xs cs) {w' : World} : ∀ (c : List Value) (y : List (List Int)), (encS (encS encU)).rep (fun g => g < base) w' c y → (encS (encS encU)).rep (fun g => (g < base ∨ some g ≠ v6.ownBlock) ∧ some g ≠ v7.ownBlock) w' c y := fun c y hr => (encS (encS encU)).more hr fun g _ hx => ⟨.inl hx, fun e => by have := (h.snd.lt g e.symm).1; omega⟩
/-- The first j dealings are as long as they should be. -/
def OkTo (p : Par) (deals : List (Int × List (List Int))) (j : Nat) : Prop := ∀ i (h : i < deals.length), i < j → badB p deals[i] = false
theorem OkTo.all {p : Par} {deals : List (Int × List (List Int))} (h : OkTo p deals deals.length) : ∀ d ∈ deals, badB p d = false := fun d hd => by
  obtain ⟨i, hi, rfl⟩ := List.getElem_of_mem hd
  exact h i hi hi
theorem gives_nil {α : Type} {E : Enc α} {Y : Nat → Prop} {w w' : World} {xs : List α} {n k : Int} (h1 : n = k) (h2 : xs = []) (hg : w.grownBy w' none) : GivesE E Y w xs n (.returned (.tuple #[.slice none 0 0, .int .i64 k])) w' := by
  subst h1 h2
  exact ⟨_, rfl, Sl.nil _ _ _, hg⟩
theorem gives_fin {α : Type} {E : Enc α} {Y : Nat → Prop} {w w' : World} {xs : List α} {n k : Int} {v : Value} (hs : Sl E Y w' v xs) (h1 : n = k) (hg : w.grownBy w' none) : GivesE E Y w xs n (.returned (.tuple #[v, .int .i64 k])) w' := by
  subst h1
  exact ⟨_, rfl, hs, hg⟩
theorem grown_two {w : World} {a b : Obj} : w.grownBy ((w.alloc a).alloc b) none := (World.grownBy_alloc w _ none).trans (World.grownBy_alloc _ _ none)
theorem Bk.one {w : World} {b : Nat} {t : TypeId} {u : Value} (h : Bk w b t #[u]) : ∀ j v, [u][j]? = some v → w.cell? ⟨b, j, none⟩ = some v := fun j v hv => by rw [h.cell j]; simpa using hv
section
variable {α : Type} {P : Program} {E : Enc α} {base : Nat} {e : TypeId} {X : Nat → Prop} {w : World} {v : Value} {xs : List α}
/-- append(out, y): the thing y lies in a block that is known. -/
theorem pushAt_core {cs : List Value} {y : α} {t : TypeId} {bytes b c : Nat} (hE : ElemOk P t e E.size bytes) (hacc : Acc E base e X w v xs) (hrep : E.rep (fun g => X g ∧ some g ≠ v.ownBlock) w cs y) (hcell : ∀ j u, cs[j]? = some u → w.cell? ⟨b, j, none⟩ = some u)
    (hlen : (xs.length + 1) * bytes ≤ 140737488355328) (hb : base ≤ w.heap.size) (hN : ∀ g, w.heap.size ≤ g → X g)
    {o : Oper} {a : Act} {K : Act → World → Prop} {Q : Exit → Act → World → Prop} (s x : Operand)
    (ho : o.op = .call { callee := .builtin .append, args := #[s, x], argTypes := #[t, t] }) (hs : a.eval s = v) (hx : a.eval x = .slice (some ⟨b, 0, none⟩) 1 c)
    (h : ∀ v' w', Acc E base e X w' v' (xs ++ [y]) → w.grownBy w' v.ownBlock → Moved w v v' → K (a.put o.dst v') w') : o.wp P a w K Q := by
  obtain ⟨_, css, h1, _, h3⟩ := id hacc
  have hcl := E.len hrep
  refine wp_app s x t ho (size := E.size) hE E.pos hs h3 (some ⟨b, 0, none⟩) 1 c cs hx (by rw [hcl, Nat.one_mul]) (by simp) ?_ (E.ones hrep) hlen hb ?_
  · intro ad e' j u hu
    injection e' with e'
    subst e'
    rw [← hcell j u hu]
    unfold Addr.add
    split
    · rename_i h0
      have : j = 0 := by simpa using h0
      subst this
      rfl
    · simp
  · intro v' w' hown hg hat
    have hat' : Moved w v v' := hat.imp id fun e => ⟨_, Nat.le_refl _, e⟩
    refine h v' w' (hacc.app (cs2 := [cs]) (ys := [y]) rfl (fun i hi hi' => ?_) (fun css' hc' => ?_) hg hat' hN) hg hat'
    · have : i = 0 := by simp at hi; omega
      subst this
      exact hrep
    · have e1 : css' = css.flatten := own_same hc' h3
      rw [e1]
      simpa using hown
theorem step_pushAt {cs : List Value} {y : α} {t : TypeId} {bytes b c : Nat} {ops : Array Oper} {o : Oper} {a : Act} {K : Act → World → Prop} {Q : Exit → Act → World → Prop} {F : Prop} (hgd : o.guard = none) (s x : Operand)
    (ho : o.op = .call { callee := .builtin .append, args := #[s, x], argTypes := #[t, t] }) (hE : ElemOk P t e E.size bytes) (hacc : Acc E base e X w v xs) (hs : a.eval s = v) (hx : a.eval x = .slice (some ⟨b, 0, none⟩) 1 c) (hrep : E.rep (fun g => X g ∧ some g ≠ v.ownBlock) w cs y) (hcell : ∀ j u, cs[j]? = some u → w.cell? ⟨b, j, none⟩ = some u)
    (hlen : (xs.length + 1) * bytes ≤ 140737488355328) (hb : base ≤ w.heap.size) (hN : ∀ g, w.heap.size ≤ g → X g)
    (h : ∀ v' w', Acc E base e X w' v' (xs ++ [y]) → w.grownBy w' v.ownBlock → Moved w v v' → K (a.put o.dst v') w') : if Region.wanted o (yielded ops a.tmps) = true then Oper.wp P o a w K Q else F := by
  have hw : Region.wanted o (yielded ops a.tmps) = true := by simp [Region.wanted, hgd]
  rw [if_pos hw]
  exact pushAt_core hE hacc hrep hcell hlen hb hN s x ho hs hx h
end
end Go.Proofs.YtnjkelojkoeihaaGreatDoor

namespace Go.Proofs.YtnjkelojkoeihaaGreatDoor
open Go Go.RowKit

/-- A tape in block g: what its k-th draw below q is, and how it lies when k were made; bl: the blocks that it has. -/
structure Tp (g : Nat) (q : Int) (dr : Nat → Int) (TI : Nat → World → Prop) (bl : Nat → Prop) (most : Nat) : Prop where
  own : bl g
  old : ∀ {k w b}, TI k w → bl b → b < w.heap.size
  val : ∀ k, U64 (dr k)
  keep : ∀ {k w w'} {row : Option Nat}, TI k w → w.grownBy w' row → (∀ b, row = some b → ¬ bl b) → TI k w'
  next : ∀ {k w}, k < most → TI k w → Calls Tryz.prog 80 #[.pointer (some ⟨g, 0, none⟩), .int .u64 q] w fun e w' => e = .returned (.int .u64 (dr k)) ∧ TI (k + 1) w' ∧ w.grownBy w' (some g)
def seedS (q s : Int) : Nat → Int
  | 0 => s
  | k + 1 => drawS q (seedS q s k)
theorem seedS_U64 (q s : Int) (hs : U64 s) : ∀ k, U64 (seedS q s k)
  | 0 => hs
  | k + 1 => drawS_U64 q _ (seedS_U64 q s hs k)
/-- A tape of a seed. -/
theorem tp_own (g : Nat) (q s : Int) (hs : U64 s) (hq : U64 q) : Tp g q (fun k => drawX q (seedS q s k)) (fun k w => Bk w g 114 #[.int .u64 (seedS q s k), .slice none 0 0, .int .i64 k]) (fun b => b = g) 1000000 where
  own := rfl
  old := fun h e => by subst e; exact h.lt
  val := fun k => drawX_U64 q _ hq
  keep := fun h hg hr => h.grown hg (fun e => hr g e.symm rfl)
  next := fun {k w} hk h => (next_own g none 0 (seedS q s k) k q w (seedS_U64 q s hs k) hq (by omega) (by omega) h).mono fun _ _ ⟨h1, h2, h3⟩ => ⟨h1, by simpa [seedS] using h2, h3⟩
set_option maxHeartbeats 400000 in
theorem new20_any (s : Int) (w : World) :
    Calls Tryz.prog 47 #[.int .u64 s] w fun e w' => e = .returned (.pointer (some ⟨w.heap.size, 0, none⟩)) ∧ w' = w.alloc (.cells #[.int .u64 s, .slice none 0 0, .int .i64 0] 114) := by
  go_enter Tryz.func47, Tryz.ntmps47
  go_wp2_with fail
  go_ret
  exact ⟨rfl, rfl⟩
theorem dsecrets_any (p : Par) (w : World) :
    Calls Tryz.prog 70 #[p.v] w fun e w' => e = .returned (.int .i64 (secretsI p)) ∧ w.grownBy w' none := by
  go_enter Tryz.func70, Tryz.ntmps70
  go_wp2
  go_ret
  exact ⟨rfl, World.grownBy_alloc w _ none⟩
theorem Acc.made1 (w : World) (e : TypeId) {B : Nat} (hB : B ≤ w.heap.size) (X : Nat → Prop) (hX : X w.heap.size) (z : Int) (hz : U64 z) : Acc encU B e X (w.alloc (.cells #[.int .u64 z] e)) (.slice (some ⟨w.heap.size, 0, none⟩) 1 1) [z] :=
  ⟨fun g hg => by simp [Value.ownBlock] at hg; subst hg; exact hX, [[.int .u64 z]], rfl, fun i hi hi' => by
    obtain rfl : i = 0 := by simp at hi; omega
    exact ⟨rfl, hz⟩, ⟨by simp [encU], .inr ⟨w.heap.size, 1, #[.int .u64 z], rfl, hB, heap_alloc_new w _, Nat.le_refl _, by decide, rfl, by simp [encU]⟩⟩⟩
/-- A number, modulo q, with n draws behind it, the first of them the k-th. -/
def behI (x q : Int) (dr : Nat → Int) (n k : Nat) : List Int := x % q :: (List.range n).map fun j => dr (k + j)
theorem behI_succ (x q : Int) (dr : Nat → Int) (n k : Nat) : behI x q dr (n + 1) k = behI x q dr n k ++ [dr (k + n)] := by
  simp [behI, List.range_succ]
theorem behI_len (x q : Int) (dr : Nat → Int) (n k : Nat) : (behI x q dr n k).length = n + 1 := by simp [behI]
set_option maxHeartbeats 1000000 in
theorem behind_any {g : Nat} {q : Int} {dr : Nat → Int} {TI : Nat → World → Prop} {bl : Nat → Prop} {most : Nat} (hT : Tp g q dr TI bl most) (x : Int) (n k : Nat) (w : World) (hx : U64 x) (hq : U64 q) (hq0 : 0 < q) (hn : n ≤ 1000) (hk : k + n ≤ most) (hI : TI k w) :
    Calls Tryz.prog 81 #[.int .u64 x, .int .i64 n, .int .u64 q, .func (.func 80) #[.pointer (some ⟨g, 0, none⟩)] #[]] w fun e w' => ∃ v, e = .returned v ∧ Sl encU (fun b => w.heap.size ≤ b) w' v (behI x q dr n k) ∧ TI (k + n) w' ∧ w.grownBy w' (some g) := by
  have HT := Lib.hid hT
  obtain ⟨q0, q1⟩ := hq
  obtain ⟨x0, x1⟩ := hx
  have hqz : (q == 0) = false := by simp; omega
  have hqz2 : ¬ q = 0 := by omega
  have hmod : Int.tmod x q = x % q := Int.tmod_eq_emod_of_nonneg x0
  obtain ⟨z, hz⟩ : ∃ y, y = x % q := ⟨_, rfl⟩
  have HZ : Hid (U64 z) := Lib.hid (by rw [hz]; exact ⟨Int.emod_nonneg _ (by omega), Int.lt_trans (Int.emod_lt_of_pos _ hq0) (by omega)⟩)
  have hzw : IntKind.u64.wrap z = z := IntWalk.u64_in _ (by have := HZ.out; obtain ⟨a, b⟩ := this; omega)
  have HGW : Hid (g < w.heap.size) := Lib.hid (hT.old hI hT.own)
  obtain ⟨w1, hw1⟩ : ∃ y, y = w.alloc (Obj.cells #[.int .u64 z] 22) := ⟨_, rfl⟩
  have HG1 : Hid (w.grownBy w1 none) := Lib.hid (by rw [hw1]; exact World.grownBy_alloc w _ none)
  have HA1 : Hid (Acc encU w.heap.size 22 (fun b => w.heap.size ≤ b) w1 (.slice (some ⟨w.heap.size, 0, none⟩) 1 1) (behI x q dr 0 k)) := Lib.hid (by
    rw [hw1, show behI x q dr 0 k = [z] by simp [behI, hz]]
    exact Acc.made1 w _ (Nat.le_refl _) _ (Nat.le_refl _) z HZ.out)
  have HI1 : Hid (TI k w1) := Lib.hid (hT.keep hI HG1.out (by simp))
  have HOB : Hid (∀ b, bl b → b < w.heap.size) := Lib.hid (fun b hb => hT.old hI hb)
  have e1 : x % q = z := hz.symm
  rw [e1] at hmod
  clear hT hI hz
  go_enter Tryz.func81, Tryz.ntmps81
  go_wp2_with fail
  rw [← hw1]
  clear hw1
  go_loopg [9, 15] n (fun gk s9 s15 wx => ∃ j : Nat, j + gk = n ∧ s15 = .int .i64 j ∧ Hid (Acc encU w.heap.size 22 (fun b => w.heap.size ≤ b) wx s9 (behI x q dr j k) ∧ TI (k + j) wx ∧ w.grownBy wx (some g)))
  case atStart => exact ⟨0, by omega, rfl, Lib.hid ⟨HA1.out, HI1.out, HG1.out.but _⟩⟩
  case round =>
    obtain ⟨j, hj, rfl, HX⟩ := hrel
    cases gk with
    | zero =>
      obtain rfl : j = n := by omega
      have HR : Hid (Sl encU (fun b => w.heap.size ≤ b) wr u9 (behI x q dr j k) ∧ TI (k + j) wr ∧ w.grownBy wr (some g)) := Lib.hid ⟨HX.out.1.sl, HX.out.2⟩
      have hno : ¬ ((j : Int) < (j : Int)) := by omega
      clear HX
      go_wp2
      go_ret
      exact ⟨_, rfl, HR.out⟩
    | succ m =>
      have hjn : (j : Int) < (n : Int) := by omega
      have HC := Lib.hid (HT.out.next (by omega) HX.out.2.1)
      have HA := Lib.hid HX.out.1
      have HG := Lib.hid HX.out.2.2
      have HV := Lib.hid (HT.out.val (k + j))
      have HSN := Lib.hid (behI_succ x q dr j k)
      have HLB : Hid (((behI x q dr j k).length + 1) * 8 ≤ 140737488355328) := Lib.hid (by rw [behI_len]; omega)
      obtain ⟨y, hy⟩ : ∃ y, y = dr (k + j) := ⟨_, rfl⟩
      rw [← hy] at HC HV HSN
      clear HX hy
      go_wp2_with fail
      refine HC.out.mono ?_
      rintro e w2 ⟨rfl, hi2, hg2⟩
      have HA2 := Lib.hid (HA.out.keep hg2 (fun b hb e => by injection e with e; have := HGW.out; omega))
      have HI2 := Lib.hid hi2
      have HG2 : Hid (w.grownBy w2 (some g)) := Lib.hid (HG.out.trans hg2)
      have HSZ : Hid (w.heap.size ≤ w2.heap.size) := Lib.hid HG2.out.size
      clear hi2 hg2
      go_wp2_with (at_builtin; refine wpList_push rfl (.tmp 17) (.tmp 21) rfl (E := encU) (y := y) el_u64 HA2.out rfl rfl ⟨rfl, HV.out⟩ HLB.out HSZ.out (fun _ h => Nat.le_trans HSZ.out h) ?_)
      intro v9 w3 ha hg hm
      have HFIN : Hid (Acc encU w.heap.size 22 (fun b => w.heap.size ≤ b) w3 v9 (behI x q dr (j + 1) k) ∧ TI (k + (j + 1)) w3 ∧ w.grownBy w3 (some g)) := Lib.hid ⟨by rw [HSN.out]; exact ha, HT.out.keep HI2.out hg (fun b e hb => by have := (HA2.out.lt b e).1; have := HOB.out b hb; omega), HG2.out.andThen hg (fun b e => .inl (HA2.out.lt b e).1)⟩
      clear ha hg hm
      go_wp2_with fail
      go_roundg m
      case measure => omega
      case rel => exact ⟨j + 1, by omega, by go_num, HFIN⟩
end Go.Proofs.YtnjkelojkoeihaaGreatDoor

namespace Go.Proofs.YtnjkelojkoeihaaGreatDoor
open Go Go.RowKit Go.Shelf

attribute [local go_sem] Oper.semAt_some
theorem Sl.cap {α : Type} {E : Enc α} {X : Nat → Prop} {w : World} {A : Option Addr} {n c : Nat} {xs : List α} (h : Sl E X w (.slice A n c) xs) (c' : Nat) (h1 : n ≤ c') (h2 : c' ≤ 9223372036854775807) : Sl E X w (.slice A n c') xs := by
  obtain ⟨A', c0, e, _, _, h3⟩ := h
  injection e with e1 e2 _
  subst e1 e2
  exact ⟨_, c', rfl, h1, h2, h3⟩
/-- A piece as it is handed over. -/
abbrev CK (X : Nat → Prop) (w₀ : World) (l : List Int) (n : Nat) := { x : (Option Addr × Nat) × List Int // Sl encU X w₀ (.slice x.1.1 n x.1.2) x.2 ∧ x.2.length = n ∧ ∀ y ∈ x.2, y ∈ l }
end Go.Proofs.YtnjkelojkoeihaaGreatDoor

namespace Go.Proofs.YtnjkelojkoeihaaGreatDoor
open Go

/-- Where the worlds stand when some late operations are over, these having told values; and what the k-th of them does to what lay there. -/
structure Lt where
  C : List Value → World → Prop
  R : Nat → World → World → Prop
  g : ∀ {vs w w'}, C vs w → w.grownBy w' none → C vs w'
/-- What is known of a value, and stands: as long as nothing is written, and through the late operations from the fr-th on. -/
structure Qv (L : Lt) where
  p : List Value → Value → World → Prop
  fr : Nat
  st : ∀ {vs v w w'}, p vs v w → w.grownBy w' none → p vs v w'
  sr : ∀ {vs u v w w'}, fr ≤ vs.length → L.C vs w → L.R vs.length w w' → p vs v w → p (vs ++ [u]) v w'
def Qv.any {L : Lt} : Qv L := ⟨fun _ _ _ => True, 0, fun _ _ => trivial, fun _ _ _ _ => trivial⟩
def Qv.eq {L : Lt} (u : Value) : Qv L := ⟨fun _ v _ => v = u, 0, fun h _ => h, fun _ _ _ h => h⟩
/-- What the q-th late operation has told. -/
def Qv.slot {L : Lt} (q : Nat) : Qv L := ⟨fun vs v _ => vs[q]? = some v, q + 1, fun h _ => h, fun _ _ _ h => by
  have := (List.getElem?_eq_some_iff.1 h).1
  rw [List.getElem?_append_left this]
  exact h⟩
section
variable {L : Lt} {late : List Nat} {P : Program} {ops : Array Oper} {Q : Exit → Act → World → Prop} {n : Nat} {a0 : Act} {w0 : World}

def ToldL (T : Value → World → Prop) (dst : Option Tmp) (ds : List Deferred) : Exit → Act → World → Prop := fun e a' w' => e = .normal ∧ a'.defers = ds ∧ T (match dst with | some d => a'.eval (.tmp d) | none => undef) w'
def Ask' (P : Program) (ops : Array Oper) (vs : List Value) (Vs : List (Qv L)) (Qt : Exit → Act → World → Prop) (o : Oper) (w : World) : List (Nat × Tmp) → Act → Prop
  | [], a => wpList P ops Qt [o] a w
  | (j, d) :: js, a => ∀ x, (Vs.getD j Qv.any).p vs x w → Ask' P ops vs Vs Qt o w js (a.put (some d) x)
/-- What is asked of one operation. -/
def AskL (L : Lt) (late : List Nat) (P : Program) (ops : Array Oper) (Vs : List (Qv L)) (ds : List Deferred) (i : Nat) (V : Qv L) (o : Oper) (js : List (Nat × Tmp)) (a0 : Act) : Prop :=
  (late.contains i = false ∧ V.fr = 0 ∧ ∀ vs w, L.C vs w → Ask' P ops vs Vs (ToldL (fun v w' => V.p vs v w' ∧ w.grownBy w' none) o.dst ds) o w js a0) ∨
  (∃ q, late[q]? = some i ∧ V = Qv.slot q ∧ ∀ vs w, vs.length = q → L.C vs w → Ask' P ops vs Vs (ToldL (fun v w' => L.R q w w' ∧ L.C (vs ++ [v]) w') o.dst ds) o w js a0)
def LateR (L : Lt) (late : List Nat) (P : Program) (ops : Array Oper) (n : Nat) (a0 : Act) (F : List (Qv L) → Prop) : Nat → List (Qv L) → List Oper → Prop
  | 0, Rs, _ => F Rs.reverse
  | _ + 1, _, [] => False
  | k + 1, Rs, o :: os => ∃ (V : Qv L) (js : List (Nat × Tmp)), (pairB ops Rs.length js && lookB ops n Rs.length js) = true ∧ AskL L late P ops Rs.reverse a0.defers Rs.length V o js a0 ∧ LateR L late P ops n a0 F k (V :: Rs) os
theorem LateR.mono {F : List (Qv L) → Prop} {k : Nat} {Rs : List (Qv L)} {o : Oper} {os : List Oper} (V : Qv L) (js : List (Nat × Tmp)) (hc : (pairB ops Rs.length js && lookB ops n Rs.length js) = true) (hl : late.contains Rs.length = false) (hf : V.fr = 0) (hA : ∀ vs w, L.C vs w → Ask' P ops vs Rs.reverse (ToldL (fun v w' => V.p vs v w' ∧ w.grownBy w' none) o.dst a0.defers) o w js a0) (h : LateR L late P ops n a0 F k (V :: Rs) os) : LateR L late P ops n a0 F (k + 1) Rs (o :: os) := ⟨V, js, hc, .inl ⟨hl, hf, hA⟩, h⟩
theorem LateR.turn {F : List (Qv L) → Prop} {k : Nat} {Rs : List (Qv L)} {o : Oper} {os : List Oper} (q : Nat) (js : List (Nat × Tmp)) (hc : (pairB ops Rs.length js && lookB ops n Rs.length js) = true) (hl : late[q]? = some Rs.length) (hA : ∀ vs w, vs.length = q → L.C vs w → Ask' P ops vs Rs.reverse (ToldL (fun v w' => L.R q w w' ∧ L.C (vs ++ [v]) w') o.dst a0.defers) o w js a0) (h : LateR L late P ops n a0 F k (Qv.slot q :: Rs) os) : LateR L late P ops n a0 F (k + 1) Rs (o :: os) := ⟨Qv.slot q, js, hc, .inr ⟨q, hl, rfl, hA⟩, h⟩
theorem LateR.out {F : List (Qv L) → Prop} : ∀ {k : Nat} {Rs : List (Qv L)} {os : List Oper}, LateR L late P ops n a0 F k Rs os → k ≤ os.length ∧ ∃ Ws : List (Qv L), Ws.length = k ∧ F (Rs.reverse ++ Ws) ∧ ∀ m o, m < k → os[m]? = some o → ∃ V js, Ws[m]? = some V ∧ (pairB ops (Rs.length + m) js && lookB ops n (Rs.length + m) js) = true ∧ AskL L late P ops ((Rs.reverse ++ Ws).take (Rs.length + m)) a0.defers (Rs.length + m) V o js a0
  | 0, Rs, os, h => ⟨Nat.zero_le _, [], rfl, by rw [List.append_nil]; exact h, fun m o hm => by omega⟩
  | _ + 1, _, [], h => h.elim
  | k + 1, Rs, o :: os, ⟨V, js, hb, hA, hM⟩ => by
    obtain ⟨hkl, Ws, hl, hF, hk⟩ := LateR.out hM
    refine ⟨by simpa using hkl, V :: Ws, by simp [hl], by simpa using hF, fun m o' hm ho => ?_⟩
    cases m with
    | zero =>
      obtain rfl : o = o' := by simpa using ho
      refine ⟨V, js, rfl, hb, ?_⟩
      have : (Rs.reverse ++ V :: Ws).take (Rs.length + 0) = Rs.reverse := by
        rw [Nat.add_zero, ← List.length_reverse]
        exact List.take_left
      rw [this]
      exact hA
    | succ m =>
      obtain ⟨V', js', h1, h2, h3⟩ := hk m o' (by omega) (by simpa using ho)
      refine ⟨V', js', by simpa using h1, ?_, ?_⟩
      · simpa [Nat.add_assoc, Nat.add_comm 1 m] using h2
      · simpa [Nat.add_assoc, Nat.add_comm 1 m] using h3
def FinL' (G : Act → World → Prop) (vs : List Value) (w : World) : List (Qv L) → List Oper → Act → Prop
  | V :: Vs, o :: os, a => ∀ x, V.p vs x w → FinL' G vs w Vs os (a.put o.dst x)
  | _, _, a => G a w
theorem FinL'.all {G : Act → World → Prop} {vs : List Value} {w : World} {b : Act} : ∀ {Vs : List (Qv L)} {os : List Oper} {a : Act}, Vs.length = os.length → (∀ (k : Nat) (V : Qv L) (o : Oper), Vs[k]? = some V → os[k]? = some o → V.p vs (match o.dst with | some d => b.eval (.tmp d) | none => undef) w) → FinL' G vs w Vs os a → G (onto b (os.map (·.dst)) a) w
  | [], [], _, _, _, h => h
  | V :: Vs, o :: os, a, hl, hx, h => FinL'.all (Vs := Vs) (os := os) (by simpa using hl) (fun k V o hv ho => hx (k + 1) V o (by simpa using hv) (by simpa using ho)) (h _ (hx 0 V o rfl rfl))
  | [], _ :: _, _, hl, _, _ => by simp at hl
  | _ :: _, [], _, hl, _, _ => by simp at hl
theorem Ask'.all {vs : List Value} {Vs : List (Qv L)} {Qt : Exit → Act → World → Prop} {o : Oper} {w : World} {b : Act} : ∀ {js : List (Nat × Tmp)} {a : Act}, (∀ x : Nat × Tmp, x ∈ js → (Vs.getD x.1 Qv.any).p vs (b.eval (.tmp x.2)) w) → Ask' P ops vs Vs Qt o w js a → wpList P ops Qt [o] (onto b (js.map fun x => some x.2) a) w
  | [], _, _, h => h
  | (j, d) :: js, a, hx, h => Ask'.all (js := js) (fun x hm => hx x (List.mem_cons_of_mem _ hm)) (h _ (hx (j, d) (by simp)))
/-- Which late operations are over: the first k. -/
def Cls (L : Lt) (late : List Nat) (vs : List Value) (D : Array Bool) (w : World) : Prop := vs.length ≤ late.length ∧ L.C vs w ∧ ∀ q i, late[q]? = some i → (D.getD i false = true ↔ q < vs.length)
structure LInv (L : Lt) (late : List Nat) (ops : Array Oper) (n : Nat) (a0 : Act) (Vs : List (Qv L)) (vs : List Value) (D : Array Bool) (a : Act) (w : World) : Prop where
  head : HeadInv .any ops n D
  cls : Cls L late vs D w
  tsize : a.tmps.size = a0.tmps.size
  defers : a.defers = a0.defers
  rest : ∀ t, (∀ j, j < n → D.getD j false = true → dstAt ops j ≠ some t) → a.tmps[t]? = a0.tmps[t]?
  known : ∀ j V, D.getD j false = true → Vs[j]? = some V → V.p vs (valOf (dstAt ops j) a) w
theorem toldL_letsOut {T : Value → World → Prop} {dst : Option Tmp} {ds : List Deferred} : ¬ LetsOut (ToldL T dst ds) := by
  rintro ⟨a, w', e, _⟩
  cases e
def chainB (ops : Array Oper) (late : List Nat) : Bool := (List.range (late.length - 1)).all fun q => Region.waitsFor .any ops (late.getD (q + 1) 0) (late.getD q 0)
def lateB (ops : Array Oper) (n : Nat) (late : List Nat) : Bool := late.all (fun i => decide (i < n)) && decide late.Nodup && chainB ops late
theorem toldL_op {T : Value → World → Prop} {o : Oper} {a b : Act} {w : World} (hs : ∀ cs b, o.op ≠ .select cs b) (hd : ∀ d, o.dst = some d → d < a.tmps.size) (hsz : b.tmps.size = a.tmps.size) (hlook : ∀ t ∈ o.looksAt ops, b.tmps[t]? = a.tmps[t]?) {i : Nat} (hi : ops[i]? = some o)
    (hdf : b.defers = a0.defers) (h : wpList P ops (ToldL T o.dst a0.defers) [o] b w) : wpOp P ops Q i (fun a' w' => ∃ v, a' = a.put o.dst v ∧ T (match o.dst with | some _ => v | none => undef) w') a w := by
  have hex : execOp b.eval o = execOp a.eval o := execOp_congr o hs fun x hx => by
    cases x with
    | tmp t => exact eval_of _ _ _ (hlook t (List.mem_append_left _ (List.mem_filterMap.2 ⟨.tmp t, by simpa using hx, rfl⟩)))
    | _ => rfl
  have hwn : Region.wanted o (yielded ops b.tmps) = Region.wanted o (yielded ops a.tmps) := by
    unfold Region.wanted
    cases hg : o.guard with
    | none => rfl
    | some gw =>
      obtain ⟨g, want⟩ := gw
      have hy : yielded ops b.tmps g = yielded ops a.tmps g := by
        unfold yielded
        cases ht : (ops[g]?).bind (·.dst) with
        | none => rfl
        | some t => simp only [Option.bind_some, hlook t (by simp [Oper.looksAt, hg, ht])]
      simp only [hy]
  have fin : ∀ v w', ToldL T o.dst a0.defers .normal (b.put o.dst v) w' → ∃ v', a.put o.dst v = a.put o.dst v' ∧ T (match o.dst with | some _ => v' | none => undef) w' := by
    rintro v w' ⟨_, _, h1⟩
    refine ⟨v, rfl, ?_⟩
    cases hdd : o.dst with
    | none => rw [hdd] at h1; exact h1
    | some d =>
      rw [hdd] at h1
      have hlt := hd d hdd
      have : (b.put (some d) v).eval (.tmp d) = v := by simp [Act.put, Act.eval, Array.getD_eq_getD_getElem?, hsz, hlt]
      simp only [this] at h1
      exact h1
  unfold wpOp
  simp only [hi]
  simp only [wpList, hwn] at h
  split
  · rename_i hw
    rw [if_pos hw] at h
    rcases h with h | h
    · left
      unfold Oper.wp at h ⊢
      rw [hex] at h
      generalize (execOp a.eval o).run P w = r at *
      cases r with
      | ok x w' =>
        cases x with
        | value v => exact fin v w' h
        | skip => exact fin undef w' h
        | enter f args =>
          refine Calls.mono h fun e w'' he => ?_
          cases e with
          | returned u => exact fin u w'' he
          | panicked c => exact absurd he.1 (by simp)
          | outgrown => exact absurd he toldL_letsOut
        | row row args => exact Rows.mono h fun u w'' he => fin u w'' he
        | defer d =>
          obtain ⟨_, h1, _⟩ := h
          have h1 : (Act.put { b with defers := d :: b.defers } o.dst undef).defers = a0.defers := h1
          rw [put_defers, ← hdf] at h1
          exact absurd (congrArg List.length h1) (by simp)
        | _ => exact h.elim
      | halt x w' =>
        cases x with
        | panic v => exact absurd h.1 (by simp)
        | _ => exact h.elim
    · exact absurd h.2 toldL_letsOut
  · rename_i hw
    rw [if_neg hw] at h
    exact fin undef w h
theorem linv_step {L : Lt} {late : List Nat} {vs vs2 : List Value} {Vs : List (Qv L)} {D : Array Bool} {a a' : Act} {w w' : World} {i : Nat} {o : Oper} {V : Qv L} {v : Value} (inv : LInv L late ops n a0 Vs vs D a w) (hd : distB ops n a0.tmps.size = true) (hi : i ∈ Region.ready .any ops D) (hin : i < n) (ho : ops[i]? = some o) (hV : Vs[i]? = some V) (hnl : Vs.length ≤ n)
    (ha : a' = a.put o.dst v) (hv : V.p vs2 (match o.dst with | some _ => v | none => undef) w') (hg : ∀ (W : Qv L) (j : Nat), D.getD j false = true → Vs[j]? = some W → ∀ {u : Value}, W.p vs u w → W.p vs2 u w') (hcl : Cls L late vs2 (D.setIfInBounds i true) w') : LInv L late ops n a0 Vs vs2 (D.setIfInBounds i true) a' w' := by
  subst ha
  have hdi : dstAt ops i = o.dst := by simp [dstAt, ho]
  have hun : D.getD i true = false := (mem_ready.1 hi).1
  have hlt : i < D.size := by
    rcases Nat.lt_or_ge i D.size with h' | h'
    · exact h'
    · simp [Array.getElem?_eq_none h'] at hun
  refine ⟨inv.head.set hi hin, hcl, (put_size _ _ _).trans inv.tsize, (put_defers _ _ _).trans inv.defers, fun t ht => ?_, fun j W hj hW => ?_⟩
  · have h1 : o.dst ≠ some t := fun e => ht i hin (by simp [hlt]) (hdi.trans e)
    refine Eq.trans ?_ (inv.rest t fun j hj hD => ht j hj (getD_set_true hD))
    cases hdd : o.dst with
    | none => rfl
    | some d => exact put_at _ _ _ _ (fun e => h1 (by rw [hdd, e]))
  · by_cases e : i = j
    · subst e
      obtain rfl : V = W := Option.some.inj (hV.symm.trans hW)
      rw [hdi]
      cases hdd : o.dst with
      | none => rw [hdd] at hv; exact hv
      | some d =>
        rw [hdd] at hv
        have hds := list_all_range hd hin
        rw [hdi, hdd] at hds
        simp only [Bool.and_eq_true, decide_eq_true_eq] at hds
        have : (a.put (some d) v).eval (.tmp d) = v := by simp [Act.put, Act.eval, Array.getD_eq_getD_getElem?, inv.tsize, hds.1]
        show V.p vs2 ((a.put (some d) v).eval (.tmp d)) w'
        rw [this]
        exact hv
    · have hjn : j < n := by have := (List.getElem?_eq_some_iff.1 hW).1; omega
      rw [getD_set_ne false e] at hj
      have h1 := hg W j hj hW (inv.known j W hj hW)
      cases hdj : dstAt ops j with
      | none => rw [hdj] at h1; exact h1
      | some dj =>
        rw [hdj] at h1
        have h1 : W.p vs2 (a.eval (.tmp dj)) w' := h1
        show W.p vs2 ((a.put o.dst v).eval (.tmp dj)) w'
        cases hdd : o.dst with
        | none => exact h1
        | some d =>
          have hds := list_all_range hd hin
          rw [hdi, hdd] at hds
          simp only [Bool.and_eq_true, decide_eq_true_eq] at hds
          have h2 := list_all_range hds.2 hjn
          simp only [Bool.or_eq_true, beq_iff_eq, bne_iff_ne, ne_eq] at h2
          have h3 : d ≠ dj := fun e' => (h2.resolve_left (fun e2 => e e2.symm)) (by rw [hdj, e'])
          rw [eval_of _ a dj (put_at a d dj v h3)]
          exact h1
/-- The law. -/
theorem wpAny_late {l : List Oper} (n : Nat) (hB : monoB l.toArray n a0.tmps.size = true) (hBl : lateB l.toArray n late = true) (hC0 : L.C [] w0)
    (h : LateR L late P l.toArray n a0 (fun Vs => ∀ vs w, vs.length = late.length → L.C vs w → FinL' (fun a w => wpList P l.toArray Q (l.drop n) a w) vs w Vs (l.take n) a0) n [] l) : wpAny P .any l.toArray Q l.toArray.size (Array.replicate l.toArray.size false) a0 w0 := by
  simp only [monoB, Bool.and_eq_true, decide_eq_true_eq] at hB
  obtain ⟨⟨⟨⟨hsel, hn⟩, htail⟩, htopo⟩, hdist⟩ := hB
  simp only [tailB, Bool.and_eq_true] at htail
  obtain ⟨hblk, hseq⟩ := htail
  simp only [lateB, Bool.and_eq_true, decide_eq_true_eq] at hBl
  obtain ⟨⟨hlt0, hnd⟩, hch⟩ := hBl
  have hlate : ∀ i ∈ late, i < n := fun i hi => by simpa using List.all_eq_true.1 hlt0 i hi
  have hchain : ∀ q, q + 1 < late.length → ∀ i, late[q + 1]? = some i → ∀ i', late[q]? = some i' → Region.waitsFor .any l.toArray i i' = true := fun q hq i h1 i' h2 => by
    have := list_all_range hch (show q < late.length - 1 by omega)
    rw [List.getD_eq_getElem?_getD, List.getD_eq_getElem?_getD, h1, h2] at this
    exact this
  obtain ⟨_, Vs, hVl, hF, hO⟩ := LateR.out h
  rw [List.reverse_nil, List.nil_append] at hF
  simp only [List.reverse_nil, List.nil_append, List.length_nil, Nat.zero_add] at hO
  have hnl : n ≤ l.length := by simpa using hn
  have htl : (l.take n).length = n := by simp; omega
  have hVn : Vs.length = n := hVl
  have hfr : ∀ j W, Vs[j]? = some W → (late.contains j = false ∧ W.fr = 0) ∨ ∃ q, late[q]? = some j ∧ W.fr ≤ q + 1 := fun j W hW => by
    have hj : j < n := by have := (List.getElem?_eq_some_iff.1 hW).1; omega
    obtain ⟨V, js, hV, _, hask⟩ := hO j l[j] hj (List.getElem?_eq_getElem (by omega))
    obtain rfl : V = W := Option.some.inj (hV.symm.trans hW)
    rcases hask with ⟨h1, h2, _⟩ | ⟨q, h1, h2, _⟩
    · exact .inl ⟨h1, h2⟩
    · exact .inr ⟨q, h1, by rw [h2]; exact Nat.le_refl _⟩
  have hdl : (l.drop n).length = l.toArray.size - n := by simp
  have hnext : ∀ i o, i < n → l.toArray[i]? = some o → (l.take n)[i]? = some o := fun i o hi ho => by
    rw [List.getElem?_take, if_pos hi]
    simpa using ho
  have key : ∀ m vs D a w, LInv L late l.toArray n a0 Vs vs D a w → cnt D n = m → wpAny P .any l.toArray Q (m + (l.toArray.size - n)) D a w := by
    intro m
    induction m with
    | zero =>
      intro vs D a w inv hc
      have hall := cnt_zero hc
      have hD : D = Array.replicate n true ++ Array.replicate (l.toArray.size - n) false := by
        have hsz := inv.head.size
        refine Array.ext (by simp [hsz]; omega) fun i h1 h2 => ?_
        rw [Array.getElem_append]
        by_cases hi : i < n
        · have := hall i hi
          simp [h1] at this
          simp [hi, this]
        · have := inv.head.tail i (by omega) (by omega)
          simp [h1] at this
          simp [hi, this]
      have hk : ∀ (k : Nat) (V : Qv L) (o : Oper), Vs[k]? = some V → (l.take n)[k]? = some o → V.p vs (match o.dst with | some d => a.eval (.tmp d) | none => undef) w := by
        intro k V o hv ho
        have hkn : k < n := by have := (List.getElem?_eq_some_iff.1 hv).1; omega
        have h1 := inv.known k V (hall k hkn) hv
        have h2 : dstAt l.toArray k = o.dst := by
          have : l[k]? = some o := by rw [List.getElem?_take, if_pos hkn] at ho; exact ho
          simp [dstAt, this]
        rw [h2] at h1
        have h3 : (match o.dst with | some d => a.eval (.tmp d) | none => undef) = valOf o.dst a := by cases o.dst <;> rfl
        rw [h3]
        exact h1
      have hcl : vs.length = late.length ∧ L.C vs w := by
        obtain ⟨hk0, hk1, hk2⟩ := inv.cls
        rcases Nat.lt_or_ge vs.length late.length with h | h
        case inr => exact ⟨by omega, hk1⟩
        · have h1 := (hk2 vs.length late[vs.length] (List.getElem?_eq_getElem h)).1 (hall _ (hlate _ (List.getElem_mem h)))
          omega
      have hfin := FinL'.all (hVl.trans htl.symm) hk (hF vs w hcl.1 hcl.2)
      have hon : onto a ((l.take n).map (·.dst)) a0 = a := by
        refine act_ext (fun t => onto_at a t _ _ inv.tsize.symm ?_) ((onto_defers _ _ _).trans inv.defers.symm)
        by_cases ht : some t ∈ (l.take n).map (·.dst)
        · exact .inl ht
        · refine .inr (inv.rest t fun j hj _ e => ht ?_).symm
          have hjl : j < l.length := by omega
          have : l[j].dst = some t := by simpa [dstAt, hjl] using e
          exact List.mem_map.2 ⟨l[j], List.mem_iff_getElem?.2 ⟨j, by rw [List.getElem?_take, if_pos hj, List.getElem?_eq_getElem hjl]⟩, this⟩
      rw [hon] at hfin
      have := wpAny_of_seq (md := .any) (Q' := Q) (l.drop n) n D a w (fun j => by simp [List.getElem?_drop]) (by rw [hdl, hD]; exact hseq) hfin
      rw [hdl] at this
      rwa [Nat.zero_add]
    | succ m ih =>
      intro vs D a w inv hc
      have hready : ∀ i ∈ Region.ready .any l.toArray D, i < n := by
        intro i hi
        rcases Nat.lt_or_ge i n with h' | h'
        · exact h'
        · obtain ⟨hu, oi, hoi, hall⟩ := mem_ready.1 hi
          have hlt : i < l.toArray.size := (Array.getElem?_eq_some_iff.1 hoi).1
          exfalso
          obtain ⟨k, hk, hkd⟩ : ∃ k, k < n ∧ D.getD k false = false := by
            refine Classical.byContradiction fun hno => ?_
            have : ∀ k, k ≤ n → cnt D k = 0 := by
              intro k
              induction k with
              | zero => intro _; rfl
              | succ k ihk =>
                intro hk
                have h1 : D.getD k false = true := by
                  refine Classical.byContradiction fun hx => hno ⟨k, by omega, by simpa using hx⟩
                simp only [cnt, h1, ihk (by omega)]
                rfl
            rw [this n (Nat.le_refl _)] at hc
            omega
          have hb := list_all_range hblk hlt
          simp only [Bool.or_eq_true, decide_eq_true_eq] at hb
          have hb := list_all_range (hb.resolve_left (by omega)) hk
          simp only [Bool.not_eq_true'] at hb
          have hik : i ≠ k := by omega
          have : av l.toArray k n i = true := by
            have hav := fun f j hj => av_of (ops := l.toArray) inv.head.closed inv.head.size hkd f j hj
            cases hn0 : n with
            | zero => simp [av, hik]
            | succ f =>
              simp only [av, hoi, Option.map_some, Option.getD_some, Bool.and_eq_true, bne_iff_ne]
              refine ⟨hik, ?_⟩
              rw [Array.all_eq_true_iff_forall_mem]
              intro e he
              by_cases hbd : Region.binds .any e = true
              · simp [hbd, hav f e.on (hall e he hbd)]
              · simp [hbd]
          rw [hb] at this
          cases this
      have hne : Region.ready .any l.toArray D ≠ [] := by
        have hex : ∃ k, k < n ∧ D.getD k false = false ∧ ∀ j, j < k → D.getD j false = true := by
          have : ∀ k, k ≤ n → (∃ q, q < k ∧ D.getD q false = false ∧ ∀ j, j < q → D.getD j false = true) ∨ (cnt D k = 0) := by
            intro k
            induction k with
            | zero => intro _; exact .inr rfl
            | succ k ihk =>
              intro hk
              rcases ihk (by omega) with ⟨q, h1, h2⟩ | h0
              · exact .inl ⟨q, by omega, h2⟩
              · cases hq : D.getD k false with
                | true => right; simp only [cnt, hq, h0]; rfl
                | false => exact .inl ⟨k, by omega, hq, cnt_zero h0⟩
          rcases this n (Nat.le_refl _) with ⟨q, h1, h2⟩ | h0
          · exact ⟨q, h1, h2⟩
          · omega
        obtain ⟨k, hk, hkd, hbel⟩ := hex
        have hkl : k < l.toArray.size := by omega
        have ho : l.toArray[k]? = some l.toArray[k] := Array.getElem?_eq_getElem hkl
        have : k ∈ Region.ready .any l.toArray D := by
          refine mem_ready.2 ⟨getD_in (by rw [inv.head.size]; exact hkl) hkd, _, ho, fun e he hb => hbel _ ?_⟩
          have ht := list_all_range htopo hk
          simp only [ho, Option.map_some, Option.getD_some] at ht
          have := Array.all_eq_true_iff_forall_mem.1 ht e he
          simpa [hb] using this
        intro e
        rw [e] at this
        cases this
      rw [show m + 1 + (l.toArray.size - n) = (m + (l.toArray.size - n)) + 1 by omega]
      refine ⟨fun e => absurd e hne, fun i hi => ?_⟩
      have hin := hready i hi
      obtain ⟨hu, o, ho, hall⟩ := mem_ready.1 hi
      obtain ⟨V, js, hV, hchk, hask⟩ := hO i o hin (by simpa using ho)
      simp only [Bool.and_eq_true] at hchk
      obtain ⟨hpair, hlook⟩ := hchk
      have hdst : ∀ d, o.dst = some d → d < a.tmps.size := by
        intro d hd
        have := list_all_range hdist hin
        have h2 : dstAt l.toArray i = some d := by simp only [dstAt, ho]; exact hd
        rw [h2] at this
        simp only [Bool.and_eq_true, decide_eq_true_eq] at this
        rw [inv.tsize]
        exact this.1
      have hjs : ∀ x : Nat × Tmp, x ∈ js → dstAt l.toArray x.1 = some x.2 ∧ D.getD x.1 false = true ∧ x.1 < i := by
        intro x hx
        have := List.all_eq_true.1 hpair x hx
        simp only [Bool.and_eq_true, beq_iff_eq] at this
        obtain ⟨oj, hoj, e, he, hb, hon⟩ := Region.waitsFor_spec this.2
        obtain rfl : o = oj := Option.some.inj (ho.symm.trans hoj)
        have ht := list_all_range htopo hin
        simp only [ho, Option.map_some, Option.getD_some] at ht
        have ht := Array.all_eq_true_iff_forall_mem.1 ht e he
        simp only [hb, Bool.not_true, Bool.false_or, decide_eq_true_eq] at ht
        exact ⟨this.1, by rw [← hon]; exact hall e he hb, by rw [← hon]; exact ht⟩
      have hget : ∀ x : Nat × Tmp, x ∈ js → ((Vs.take i).getD x.1 Qv.any).p vs (a.eval (.tmp x.2)) w := fun x hx => by
        obtain ⟨h1, h2, h3⟩ := hjs x hx
        have hxl : x.1 < Vs.length := by omega
        have h4 : Vs[x.1]? = some Vs[x.1] := List.getElem?_eq_getElem hxl
        have h5 := inv.known x.1 _ h2 h4
        rw [h1] at h5
        have : (Vs.take i).getD x.1 Qv.any = Vs[x.1] := by
          rw [List.getD_eq_getElem?_getD, List.getElem?_take, if_pos h3, h4]
          rfl
        rw [this]
        exact h5
      obtain ⟨hk0, hk1, hk2⟩ := inv.cls
      have hlk : ∀ t ∈ o.looksAt l.toArray, (onto a (js.map fun x => some x.2) a0).tmps[t]? = a.tmps[t]? := fun t ht => by
        refine onto_at a t _ _ inv.tsize.symm ?_
        have h1 : (o.looksAt l.toArray).all (fun t => js.any (·.2 == t) || keptB l.toArray n i t) = true := by
          simpa only [lookB, ho, Option.map_some, Option.getD_some] using hlook
        have h2 := List.all_eq_true.1 h1 t ht
        simp only [Bool.or_eq_true] at h2
        rcases h2 with h2 | h2
        · left
          obtain ⟨x, hx, hxt⟩ := List.any_eq_true.1 h2
          exact List.mem_map.2 ⟨x, hx, by rw [beq_iff_eq.1 hxt]⟩
        · right
          refine (inv.rest t fun j hj hD e => ?_).symm
          have h3 := list_all_range h2 hj
          simp only [Bool.or_eq_true, bne_iff_ne, ne_eq, beq_iff_eq] at h3
          rcases h3 with (h3 | h3) | h3
          · exact h3 e
          · obtain ⟨oj, hoj, e', he', hb', hon⟩ := Region.waitsFor_spec h3
            have := inv.head.closed j oj hoj hD e' he' hb'
            rw [hon, getD_both hu] at this
            cases this
          · subst h3
            rw [getD_both hu] at hD
            cases hD
      obtain ⟨T, hA, hS⟩ : ∃ T : Value → World → Prop, Ask' P l.toArray vs (Vs.take i) (ToldL T o.dst a0.defers) o w js a0 ∧ (∀ v w', T v w' → ∃ vs2, V.p vs2 v w' ∧ (∀ (W : Qv L) (j : Nat), D.getD j false = true → Vs[j]? = some W → ∀ {u : Value}, W.p vs u w → W.p vs2 u w') ∧ Cls L late vs2 (D.setIfInBounds i true) w') := by
        rcases hask with ⟨hnl', _, hA⟩ | ⟨q, hq, hVq, hA⟩
        · have hne : ∀ q i', late[q]? = some i' → i ≠ i' := fun q i' hq e => by
            subst e
            have := List.contains_iff_mem.2 (List.mem_of_getElem? hq)
            rw [hnl'] at this
            cases this
          exact ⟨_, hA vs w hk1, fun v w' hg => ⟨vs, hg.1, fun W j _ _ _ hp => W.st hp hg.2, hk0, L.g hk1 hg.2, fun q i' hq => by rw [getD_set_ne false (hne q i' hq)]; exact hk2 q i' hq⟩⟩
        · have hDi : D.getD i false = false := getD_both hu
          have h1 : ¬ q < vs.length := fun h => by have := (hk2 q i hq).2 h; rw [hDi] at this; cases this
          have h2 : q ≤ vs.length := by
            cases q with
            | zero => omega
            | succ q =>
              have hql : q < late.length := by have := (List.getElem?_eq_some_iff.1 hq).1; omega
              have hw := hchain q (by have := (List.getElem?_eq_some_iff.1 hq).1; omega) i hq late[q] (List.getElem?_eq_getElem hql)
              obtain ⟨oj, hoj, e, he, hb, hon⟩ := Region.waitsFor_spec hw
              obtain rfl : o = oj := Option.some.inj (ho.symm.trans hoj)
              have h3 := hall e he hb
              rw [hon] at h3
              have := (hk2 q _ (List.getElem?_eq_getElem hql)).1 h3
              omega
          obtain rfl : q = vs.length := by omega
          refine ⟨_, hA vs w rfl hk1, fun v w' hg => ⟨vs ++ [v], (by rw [hVq]; show (vs ++ [v])[vs.length]? = some v; simp), fun W j hj hW _ hp => W.sr ?_ hk1 hg.1 hp, by rw [List.length_append]; exact (List.getElem?_eq_some_iff.1 hq).1, hg.2, fun q' i' hq' => ?_⟩⟩
          · rcases hfr j W hW with ⟨_, h4⟩ | ⟨q', hq', h4⟩
            · rw [h4]; exact Nat.zero_le _
            · have := (hk2 q' j hq').1 hj
              omega
          · by_cases e : i = i'
            · subst e
              have hqq : q' = vs.length := by
                have h5 := (List.getElem?_eq_some_iff.1 hq').1
                skip
                exact (List.getElem?_inj h5 hnd).1 (hq'.trans hq.symm)
              have hlt : i < D.size := by
                rw [inv.head.size]
                exact (Array.getElem?_eq_some_iff.1 ho).1
              simp [hlt, hqq]
            · rw [getD_set_ne false e, hk2 q' i' hq']
              have : q' ≠ vs.length := fun e' => e (by rw [e', hq] at hq'; exact Option.some.inj hq')
              simp only [List.length_append, List.length_singleton]
              omega
      have hW := Ask'.all (b := a) hget hA
      have hop := toldL_op (Q := Q) (ops := l.toArray) (a0 := a0) (a := a) (Region.noSelect_spec hsel i o · · ho) hdst ((onto_size _ _ _).trans inv.tsize.symm) hlk ho (onto_defers _ _ _) hW
      refine wpOp_mono (fun a' w' hk => ?_) hop
      obtain ⟨v, ha, hT⟩ := hk
      obtain ⟨vs2, hv, hs, hcl⟩ := hS _ w' hT
      exact ih vs2 _ a' w' (linv_step inv hdist hi hin ho hV (by omega) ha hv hs hcl) (by have := (cnt_set (D := D) (i := i) n).2 hin hu; omega)
  have h0 := key n [] (Array.replicate l.toArray.size false) a0 w0 ⟨⟨by simp, (fun j oj _ hD => by rw [getD_replicate_false] at hD; cases hD), fun t _ ht => by simp only [List.size_toArray] at ht ⊢; simp [ht]⟩, ⟨Nat.zero_le _, hC0, fun q i hq => by rw [getD_replicate_false]; simp⟩, rfl, rfl, fun _ _ => rfl, (fun j V hD => by rw [getD_replicate_false] at hD; cases hD)⟩ (cnt_false _ n)
  rwa [show n + (l.toArray.size - n) = l.toArray.size by omega] at h0
/-- One operation that is carried out .. -/
theorem askl_do {T : Value → World → Prop} {ds : List Deferred} {o : Oper} {a : Act} {w : World} (hw : Region.wanted o (yielded ops a.tmps) = true)
    (h : ∀ K' : Act → World → Prop, (∀ a' w', a'.defers = ds → T (match o.dst with | some d => a'.eval (.tmp d) | none => undef) w' → K' a' w') → o.wp P a w K' (ToldL T o.dst ds)) : wpList P ops (ToldL T o.dst ds) [o] a w := by
  unfold wpList
  rw [if_pos hw]
  exact .inl (h _ fun a' w' h1 h2 => ⟨rfl, h1, h2⟩)
/-- .. or is not. -/
theorem askl_skip {T : Value → World → Prop} {ds : List Deferred} {o : Oper} {a : Act} {w : World} (hw : Region.wanted o (yielded ops a.tmps) = false) (h1 : (a.put o.dst undef).defers = ds) (h2 : T (match o.dst with | some d => (a.put o.dst undef).eval (.tmp d) | none => undef) w) : wpList P ops (ToldL T o.dst ds) [o] a w := by
  unfold wpList
  rw [if_neg (by rw [hw]; simp)]
  exact ⟨rfl, h1, h2⟩
/-- What is behind them. -/
def FinL (P : Program) (ops : Array Oper) (Q : Exit → Act → World → Prop) (vs : List Value) (w : World) : List (Qv L) → List Oper → Act → Prop
  | V :: Vs, o :: os, a => ∀ x, V.p vs x w → FinL P ops Q vs w Vs os (a.put o.dst x)
  | _, os, a => wpList P ops Q os a w
theorem FinL.cut {vs : List Value} {w : World} : ∀ {Vs : List (Qv L)} {os : List Oper} {a : Act}, Vs.length ≤ os.length → FinL P ops Q vs w Vs os a → FinL' (fun a w => wpList P ops Q (os.drop Vs.length) a w) vs w Vs (os.take Vs.length) a
  | [], os, a, _, h => by
    have h : wpList P ops Q os a w := by cases os <;> exact h
    exact h
  | V :: Vs, [], a, hl, _ => by simp at hl
  | V :: Vs, o :: os, a, hl, h => fun x hx => FinL.cut (Vs := Vs) (os := os) (by simpa using hl) (h x hx)
theorem LateR.weak {F G : List (Qv L) → Prop} : ∀ {k : Nat} {Rs : List (Qv L)} {os : List Oper}, LateR L late P ops n a0 F k Rs os → (∀ Ws, Ws.length = Rs.length + k → F Ws → G Ws) → LateR L late P ops n a0 G k Rs os
  | 0, Rs, _, h, hg => hg _ (by simp) h
  | _ + 1, _, [], h, _ => h.elim
  | k + 1, Rs, o :: os, ⟨V, js, hb, hA, hM⟩, hg => ⟨V, js, hb, hA, LateR.weak hM fun Ws hW => hg Ws (by simp at hW ⊢; omega)⟩
theorem wpAny_lateR {l : List Oper} (n : Nat) (hB : monoB l.toArray n a0.tmps.size = true) (hBl : lateB l.toArray n late = true) (hC0 : L.C [] w0)
    (h : LateR L late P l.toArray n a0 (fun Vs => ∀ vs w, vs.length = late.length → L.C vs w → FinL P l.toArray Q vs w Vs l a0) n [] l) : wpAny P .any l.toArray Q l.toArray.size (Array.replicate l.toArray.size false) a0 w0 := by
  refine wpAny_late n hB hBl hC0 (LateR.weak h fun Ws hW hF vs w hvl hw => ?_)
  have hn := (LateR.out h).1
  have hl : Ws.length = n := by simpa using hW
  have := FinL.cut (by rw [hl]; exact hn) (hF vs w hvl hw)
  rwa [hl] at this
theorem wp_region_late {l : List Oper} {id : Nat} (L : Lt) (late : List Nat) (n : Nat) (hm : P.follows .mixedOrders = true) (hB : monoB l.toArray n a0.tmps.size = true) (hBl : lateB l.toArray n late = true) (hC0 : L.C [] w0.drew)
    (h : LateR L late P l.toArray n a0 (fun Vs => ∀ vs w, vs.length = late.length → L.C vs w → FinL P l.toArray Q vs w Vs l a0) n [] l) : (Code.region id l.toArray true).wp P Q a0 w0 :=
  wp_region_any hm (wpAny_lateR n hB hBl hC0 h)
end
end Go.Proofs.YtnjkelojkoeihaaGreatDoor

namespace Go.Proofs.YtnjkelojkoeihaaGreatDoor
open Go Go.RowKit Go.Shelf

attribute [local go_sem] Oper.semAt_some
theorem info_i64 : (Tryz.prog.info? 2).map (fun i => (i.zero, i.size, i.bytes)) = some (some (.int .i64 0), 1, 8) := by kernel_rfl
/-- Two lists built side by side. -/
structure Side {α β : Type} (E : Enc α) (F : Enc β) (base : Nat) (e f : TypeId) (Z : Nat → Prop) (w : World) (v u : Value) (xs : List α) (ys : List β) : Prop where
  fst : Acc E base e (fun g => Z g ∧ some g ≠ u.ownBlock) w v xs
  snd : Acc F base f (fun g => Z g ∧ some g ≠ v.ownBlock) w u ys
section
variable {α β : Type} {E : Enc α} {F : Enc β} {base : Nat} {e f : TypeId} {Z : Nat → Prop} {w w' : World} {v u v' u' : Value} {xs xs' : List α} {ys ys' : List β}
theorem Side.kept (h : Side E F base e f Z w v u xs ys) (hg : w.grownBy w' none) : Side E F base e f Z w' v u xs ys := ⟨h.fst.kept hg, h.snd.kept hg⟩
theorem Side.swap (h : Side E F base e f Z w v u xs ys) : Side F E base f e Z w u v ys xs := ⟨h.snd, h.fst⟩
theorem Side.one (h : Side E F base e f Z w v u xs ys) (ha : Acc E base e (fun g => Z g ∧ some g ≠ u.ownBlock) w' v' xs') (hg : w.grownBy w' v.ownBlock) (hm : Moved w v v') : Side E F base e f Z w' v' u xs' ys := by
  refine ⟨ha, ?_⟩
  have h1 : Acc F base f (fun g => (Z g ∧ some g ≠ v'.ownBlock) ∧ some g ≠ v.ownBlock) w u ys := h.snd.more fun g hg hx => ⟨⟨hx.1, fun e => hm.ne hg (fun e' => hx.2 e'.symm) e.symm⟩, hx.2⟩
  exact (h1.keep hg fun g hx => hx.2).more fun g _ hx => hx.1
theorem Side.two (h : Side E F base e f Z w v u xs ys) (ha : Acc F base f (fun g => Z g ∧ some g ≠ v.ownBlock) w' u' ys') (hg : w.grownBy w' u.ownBlock) (hm : Moved w u u') : Side E F base e f Z w' v u' xs ys' := (h.swap.one ha hg hm).swap
theorem Side.new1 (h : Side E F base e f Z w v u xs ys) (hZ : ∀ g, w.heap.size ≤ g → Z g) : ∀ g, w.heap.size ≤ g → Z g ∧ some g ≠ u.ownBlock := fun g hg => ⟨hZ g hg, fun e => by have := (h.snd.lt g e.symm).2; omega⟩
theorem Side.new2 (h : Side E F base e f Z w v u xs ys) (hZ : ∀ g, w.heap.size ≤ g → Z g) : ∀ g, w.heap.size ≤ g → Z g ∧ some g ≠ v.ownBlock := fun g hg => ⟨hZ g hg, fun e => by have := (h.fst.lt g e.symm).2; omega⟩
end
/-- A number that is out of range. -/
def outB (p : Par) (x : Int) : Bool := decide (fixI x p.Q < wrap64 (-p.M)) || decide (fixI x p.Q > p.M)
/-- What is wrong with a model's secrets. -/
def modelE (p : Par) (l : List Int) : Int := if smallB p && decide (1 ≤ p.K ∧ 1 ≤ p.D) && (l.length : Int) == secretsI p then if l.any (outB p) then 20 else 0 else 4
def rowW (p : Par) (d : Nat) (r : List Int) : List Int := (r.take d).map fun x => fixI x p.Q
def rowB (p : Par) (d : Nat) (r : List Int) : Int := fixI (r[d]?.getD 0) p.Q
def modelW (p : Par) (l : List Int) : List (List Int) := if modelE p l = 0 then (chk (p.D + 1).toNat l p.K.toNat).map (rowW p p.D.toNat) else []
def modelB (p : Par) (l : List Int) : List Int := if modelE p l = 0 then (chk (p.D + 1).toNat l p.K.toNat).map (rowB p p.D.toNat) else []
/-- A call that told a model, and what is wrong. -/
def GivesM (Y : Nat → Prop) (w : World) (W : List (List Int)) (B : List Int) (n : Int) (e : Ending) (w' : World) : Prop := ∃ v u, e = .returned (.tuple #[.agg #[v, u], .int .i64 n]) ∧ Sl (encW encI) Y w' v W ∧ Sl encI Y w' u B ∧ (B ≠ [] → Wr Y w' u) ∧ w.grownBy w' none
theorem Side.keep {α β : Type} {E : Enc α} {F : Enc β} {base : Nat} {e f : TypeId} {Z : Nat → Prop} {w w' : World} {v u : Value} {xs : List α} {ys : List β} {row : Option Nat} (h : Side E F base e f Z w v u xs ys) (hg : w.grownBy w' row) (hZ : ∀ g, Z g → some g ≠ row) : Side E F base e f Z w' v u xs ys := ⟨h.fst.keep hg fun g hx => hZ g hx.1, h.snd.keep hg fun g hx => hZ g hx.1⟩
theorem Side.keepc {α β : Type} {E : Enc α} {F : Enc β} {base : Nat} {e f : TypeId} {Z : Nat → Prop} {w w' : World} {v u : Value} {xs : List α} {ys : List β} {row : Option Nat} (h : Side E F base e f Z w v u xs ys) (hg : w.grownBy w' row) (hr : ∀ r, row = some r → ∃ o : Obj, w.heap[r]? = some o ∧ o.isCells = false) : Side E F base e f Z w' v u xs ys := ⟨h.fst.keepc hg hr, h.snd.keepc hg hr⟩
theorem Wr.reslice {X : Nat → Prop} {w : World} {A : Option Addr} {n c n' c' : Nat} (h : Wr X w (.slice A n c)) : Wr X w (.slice A n' c') := by
  obtain ⟨g, o, _, _, e, h⟩ := h
  injection e with e1 _ _
  subst e1
  exact ⟨g, o, n', c', rfl, h⟩
theorem cellK {w w' : World} {g o : Nat} {u : Value} {row : Option Nat} (h : w.cell? ⟨g, o, none⟩ = some u) (hg : w.grownBy w' row) (hne : some g ≠ row) : w'.cell? ⟨g, o, none⟩ = some u := (World.cell?_of_block (w := w) (hg.block g (block_lt_of_cell h) hne)).trans h
/-- A slice of one thing in a block made since n. -/
def BlkQ (n : Nat) (t : TypeId) (u v : Value) (w : World) : Prop := ∃ b, v = .slice (some ⟨b, 0, none⟩) 1 1 ∧ n ≤ b ∧ Bk w b t #[u]
section
variable {base : Nat} {W wd w' w3 : World} {vW vB u v3 : Value} {g8 d : Nat} {bv : Int} {xsW : List (List Int)} {xsB : List Int} {yW : List Int}
end
theorem bkNe {W : World} {g : Nat} {t : TypeId} {u : Value} {cs : List Value} (h : Bk W g t (u :: cs).toArray) {row : Option Nat} (hr : ∀ r, row = some r → ∃ o : Obj, W.heap[r]? = some o ∧ o.isCells = false) : some g ≠ row := cell_ne (u := u) (by have := h.cell 0; simpa using this) hr
theorem grownSet (w : World) (g o : Nat) (v : Value) : w.grownBy (w.setCell ⟨g, o, none⟩ v) (some g) := ⟨rfl, rfl, rfl, by simp [World.setCell], fun k _ hne => Below.heap_setCell w ⟨g, o, none⟩ v k (fun e => hne (by rw [e]))⟩
theorem grownSetUp {w w1 : World} (h : w.grownBy w1 none) {g : Nat} (o : Nat) (v : Value) (hg : w.heap.size ≤ g) : w.grownBy (w1.setCell ⟨g, o, none⟩ v) none := grown_up h (grownSet w1 g o v) (fun k e => by injection e with e; omega)
theorem gives_noM {w w' : World} {W : List (List Int)} {B : List Int} {n k : Int} (h : n = k ∧ W = [] ∧ B = []) (hg : w.grownBy w' none) : GivesM (fun g => w.heap.size ≤ g) w W B n (.returned (.tuple #[.agg #[.slice none 0 0, .slice none 0 0], .int .i64 k])) w' := by
  obtain ⟨rfl, rfl, rfl⟩ := h
  exact ⟨_, _, rfl, Sl.nil _ _ _, Sl.nil _ _ _, fun h => absurd rfl h, hg⟩
abbrev noW (w w1 : World) (n : Int) : World := ((w1.setCell ⟨w.heap.size + 1, 0, none⟩ (.slice none 0 0)).setCell ⟨w.heap.size + 1, 1, none⟩ (.slice none 0 0)).setCell ⟨w.heap.size + 1 + 1, 0, none⟩ (.int .i64 n)
theorem noW_5 {w w1 : World} {a : Value} (h : Bk w1 (w.heap.size + 1 + 1) 51 #[a]) (n : Int) : Bk (noW w w1 n) (w.heap.size + 1 + 1) 51 #[.int .i64 n] := ((h.far (by simp) _).far (by simp) _).set 0 _
theorem noW_g {w w1 : World} (h : w.grownBy w1 none) (n : Int) : w.grownBy (noW w w1 n) none := grownSetUp (grownSetUp (grownSetUp h _ _ (by omega)) _ _ (by omega)) _ _ (by omega)
theorem Sl.shape {α : Type} {E : Enc α} {X : Nat → Prop} {w : World} {v : Value} {xs : List α} (h : Sl E X w v xs) : ∃ A n c, v = .slice A n c := by
  obtain ⟨A, c, e, _, _⟩ := h.form
  exact ⟨_, _, _, e⟩
theorem fixI_I64 (x q : Int) (hq : U64 q) : I64 (fixI x q) := by
  unfold fixI
  split
  · exact ⟨by decide, by decide⟩
  · cases hm : mayB q with
    | false =>
      have : addI x 0 q = 0 := by simp [addI, hm]
      rw [this]
      have h1 := hq.1
      split <;> constructor <;> omega
    | true =>
      have h1 := addI_bd x 0 q hm
      simp [mayB] at hm
      split <;> constructor <;> omega
theorem Acc.form0 {α : Type} {E : Enc α} {base : Nat} {e : TypeId} {X : Nat → Prop} {w : World} {v : Value} {xs : List α} (h : Acc E base e X w v xs) (hn : 0 < xs.length) : ∃ g c, v = .slice (some ⟨g, 0, none⟩) xs.length c ∧ base ≤ g ∧ g < w.heap.size ∧ xs.length ≤ c ∧ c ≤ 9223372036854775807 := by
  have hlt := h.lt
  obtain ⟨A, c, e0, hc1, hc2⟩ := h.sl.form
  obtain ⟨hb, css, h1, h2, h3⟩ := h
  rcases h3.2 with ⟨hv, h0⟩ | ⟨g, cap, cur, hv, _, hh, _⟩
  · omega
  · have hg := hlt g (by rw [hv]; rfl)
    rw [hv] at e0
    injection e0 with _ _ e3
    subst e3
    exact ⟨g, cap, hv, hg.1, hg.2, hc1, hc2⟩
def rowsOf {X : Nat → Prop} {w₀ : World} {l : List Int} {m : Nat} (pre : List (CK X w₀ l m)) : List (List Int) := pre.map fun x => x.1.2
theorem chk_flatten {α : Type} (m : Nat) : ∀ (k : Nat) (l : List α), 1 ≤ m → l.length = k * m → (chk m l k).flatten = l
  | 0, l, _, h => by
    have : l = [] := List.eq_nil_of_length_eq_zero (by omega)
    subst this
    rfl
  | k + 1, l, hm, h => by
    rw [chk_succ, List.flatten_append]
    have h1 : chk m l k = chk m (l.take (k * m)) k := by
      unfold chk
      refine List.map_congr_left fun j hj => ?_
      have hjk : j < k := List.mem_range.1 hj
      have h7 : (j + 1) * m ≤ k * m := Nat.mul_le_mul_right m hjk
      rw [Nat.add_mul, Nat.one_mul] at h7
      rw [List.drop_take, List.take_take]
      congr 1
      omega
    rw [Nat.add_mul, Nat.one_mul] at h
    rw [h1, chk_flatten m k (l.take (k * m)) hm (by rw [List.length_take]; omega)]
    simp only [List.flatten_cons, List.flatten_nil, List.append_nil]
    rw [List.take_of_length_le (l := l.drop (k * m)) (by rw [List.length_drop]; omega), List.take_append_drop]
end Go.Proofs.YtnjkelojkoeihaaGreatDoor

namespace Go.Proofs.YtnjkelojkoeihaaGreatDoor
open Go Go.RowKit

/-- A piece of numbers. -/
theorem Sl.piece {X : Nat → Prop} {w : World} {g o n c : Nat} {l : List Int} (h : Sl encU X w (.slice (some ⟨g, o, none⟩) n c) l) (a m : Nat) (hm : 0 < m) (ha : a + m ≤ l.length) : Sl encU X w (.slice (some ⟨g, o + a, none⟩) m m) ((l.drop a).take m) := by
  obtain ⟨A, c', e, h1, h2, h3⟩ := h
  injection e with e1 e2 e3
  subst e1 e3
  have hl : ((l.drop a).take m).length = m := by simp; omega
  obtain ⟨g', o', eA, lt, hX, hi⟩ := h3 (by intro e; rw [e] at ha; simp at ha; omega)
  injection eA with eA
  injection eA with eA1 eA2 _
  subst eA1 eA2
  refine ⟨_, m, by rw [hl], by rw [hl]; exact Nat.le_refl _, by omega, fun _ => ⟨g, o + a, rfl, lt, hX, fun i hi' => ?_⟩⟩
  have hi2 : i < m := by rw [hl] at hi'; exact hi'
  obtain ⟨cs, hr, hc⟩ := hi (a + i) (by omega)
  refine ⟨cs, ?_, fun j u hu => ?_⟩
  · have e : ((l.drop a).take m)[i] = l[a + i] := by simp
    rw [e]
    exact hr
  · have := hc j u hu
    rw [show o + a + i * encU.size + j = o + (a + i) * encU.size + j by show o + a + i * 1 + j = o + (a + i) * 1 + j; omega]
    exact this
/-- The pieces of a polynomial of two, of which the first j are laid. -/
def cellsT (gb ob t j : Nat) : List Value := (List.range t).map fun i => if i < j then .slice (some ⟨gb, ob + i * t, none⟩) t t else .slice none 0 0
theorem cellsT_set (gb ob t j : Nat) : (cellsT gb ob t j).set j (.slice (some ⟨gb, ob + j * t, none⟩) t t) = cellsT gb ob t (j + 1) := by
  refine List.ext_getElem (by simp [cellsT]) fun k h1 h2 => ?_
  rw [List.getElem_set]
  simp only [cellsT, List.getElem_map, List.getElem_range]
  split
  · rename_i e
    subst e
    rw [if_pos (by omega)]
  · rename_i e
    by_cases h : k < j
    · rw [if_pos h, if_pos (by omega)]
    · rw [if_neg h, if_neg (by omega)]
theorem pieces_sl {X : Nat → Prop} {w : World} {gb ob n c t Bo : Nat} {l : List Int} (h : Sl encU X w (.slice (some ⟨gb, ob, none⟩) n c) l) (ht : 0 < t) (ht2 : t ≤ 100) (hl : l.length = t * t) (hb : Bk w Bo 25 (cellsT gb ob t t).toArray) (hX : X Bo) : Sl (encS encU) X w (.slice (some ⟨Bo, 0, none⟩) t t) (chk t l t) := by
  have hlen : (chk t l t).length = t := chk_length _ _ _
  have := Sl.block (E := encS encU) (X := X) (xs := chk t l t) (c := t) hb hX ((cellsT gb ob t t).map fun v => [v]) (by simp [cellsT, hlen]) (fun i hi hi' => by
    have hit : i < t := by rw [hlen] at hi; exact hi
    have ha : i * t + t ≤ l.length := by
      rw [hl]
      have := Nat.mul_le_mul_right t (show i + 1 ≤ t from hit)
      rw [Nat.add_mul, Nat.one_mul] at this
      exact this
    have e1 : (chk t l t)[i] = (l.drop (i * t)).take t := by simp [chk]
    have e2 : ((cellsT gb ob t t).map fun v => [v])[i] = [.slice (some ⟨gb, ob + i * t, none⟩) t t] := by simp [cellsT, hit]
    rw [e1, e2]
    exact ⟨_, rfl, h.piece (i * t) t ht ha⟩) (by rw [flatten_singles]) (by rw [hlen]; exact Nat.le_refl _) (by omega)
  rwa [hlen] at this
set_option maxRecDepth 100000 in
set_option maxHeartbeats 4000000 in
theorem two2_any {g : Nat} {dr : Nat → Int} {TI : Nat → World → Prop} {bl : Nat → Prop} {most : Nat} (p : Par) (hT : Tp g p.Q dr TI bl most) (x : Int) (k : Nat) (w : World) (hx : U64 x) (hq : U64 p.Q) (hq0 : 0 < p.Q) (ht : p.T = 1) (hk : k + 3 ≤ most) (hI : TI k w) :
    Calls Tryz.prog 89 #[p.v, .int .u64 x, .func (.func 80) #[.pointer (some ⟨g, 0, none⟩)] #[]] w fun e w' => ∃ v, e = .returned v ∧ Sl (encS encU) (fun b => w.heap.size ≤ b) w' v (chk 2 (behI x p.Q dr 3 k) 2) ∧ TI (k + 3) w' ∧ w.grownBy w' (some g) := by
  obtain ⟨w0, hw0⟩ : ∃ y, y = w.alloc (Obj.cells p.cells 24) := ⟨_, rfl⟩
  have HG0 : Hid (w.grownBy w0 none) := Lib.hid (by rw [hw0]; exact World.grownBy_alloc w _ none)
  have HB0 : Hid (Bk w0 w.heap.size 24 p.cells) := Lib.hid (by rw [hw0]; exact Bk.new w _ _)
  have HI0 : Hid (TI k w0) := Lib.hid (hT.keep hI HG0.out (by simp))
  have HBH := Lib.hid (behind_any hT x 3 k w0 hx hq hq0 (by decide) hk HI0.out)
  have hp0 := HB0.out.prule
  have HT := Lib.hid hT
  have HOB : Hid (∀ b, bl b → b < w.heap.size) := Lib.hid (fun b hb => hT.old hI hb)
  have HGW : Hid (g < w.heap.size) := Lib.hid (hT.old hI hT.own)
  clear hT hI hx hq hq0
  go_enter Tryz.func89, Tryz.ntmps89
  go_wp2_with fail
  rw [← hw0]
  clear hw0
  go_wp2_with fail
  refine HBH.out.mono ?_
  rintro e w1 ⟨v8, rfl, hs1, hi1, hg1⟩
  obtain ⟨A8, c8, e8, hc8, hc8b⟩ := hs1.form
  rw [behI_len] at e8 hc8
  obtain ⟨gb, ob, c8', e8', hgb, hgb2, _, _⟩ := hs1.atU (k := 0) (by rw [behI_len]; decide)
  rw [e8] at e8'
  injection e8' with e81 e82 e83
  subst e81
  have e8 : v8 = .slice (some ⟨gb, ob, none⟩) 4 c8 := e8
  have hc8 : 4 ≤ c8 := hc8
  subst e8
  have HS1 := Lib.hid hs1
  have HI1 := Lib.hid hi1
  have HG1 : Hid (w.grownBy w1 (some g)) := Lib.hid ((HG0.out.but _).trans hg1)
  have HBB : Hid (w.heap.size ≤ gb ∧ gb < w1.heap.size) := Lib.hid ⟨Nat.le_trans HG0.out.size hgb2, hgb⟩
  have hmk := run_make_row' (P := Tryz.prog) 34 25 (.slice none 0 0) 24 Tryz.underlying34 info_nums rfl .i64 .i64 2 (by decide) (by decide) w1
  have hmk : (Instr.makeSlice 34 (.int .i64 2) (.int .i64 2)).run Tryz.prog w1 = .ok (.slice (some ⟨w1.heap.size, 0, none⟩) 2 2) (w1.alloc (.cells (madeCells #[.slice none 0 0] 2) 25)) := hmk
  obtain ⟨D0, hD0⟩ : ∃ y, y = w1.alloc (.cells (madeCells #[.slice none 0 0] 2) 25) := ⟨_, rfl⟩
  obtain ⟨Bo, hBo⟩ : ∃ y, y = w1.heap.size := ⟨_, rfl⟩
  have HGD : Hid (w1.grownBy D0 none) := Lib.hid (by rw [hD0]; exact World.grownBy_alloc _ _ none)
  have HBO : Hid (Bk D0 Bo 25 (cellsT gb ob 2 0).toArray) := Lib.hid (by
    rw [hD0, hBo]
    exact (Bk.new w1 25 (madeCells #[.slice none 0 0] 2)).of_eq (Array.toList_inj.1 (by rw [toList_madeCells_one]; rfl)))
  have HBS : Hid (Bo = w1.heap.size) := Lib.hid hBo
  have hp1 : ∀ o, w1.cell? ⟨w.heap.size, o, none⟩ = (#[.int .u64 p.P, .int .u64 p.Q, .int .u64 p.G, .int .u64 p.H, .int .i64 p.Nodes, .int .i64 p.N, .int .i64 p.T, .int .i64 p.K, .int .i64 p.D, .int .i64 p.R, .int .i64 p.M, .int .i64 p.X] : Array Value)[o]? := (HB0.out.grown hg1 (fun e => by injection e with e; have := HGW.out; omega)).prule
  clear hs1 hi1 hg1 hgb hgb2 e82 e83 hc8b
  go_upto_region 5 with (fail)
  rw [← hD0, ← hBo]
  clear hD0 hBo hmk hp1
  go_loopg [27] 2 (fun gk s27 wx => ∃ j : Nat, j + gk = 2 ∧ s27 = .int .i64 j ∧ Hid (Bk wx Bo 25 (cellsT gb ob 2 j).toArray ∧ D0.grownBy wx (some Bo)))
  case atStart => exact ⟨0, by omega, rfl, Lib.hid ⟨HBO.out, World.grownBy.refl _ _⟩⟩
  case round =>
    obtain ⟨j, hj, rfl, HX⟩ := hrel
    cases gk with
    | zero =>
      obtain rfl : j = 2 := by omega
      have hno : ¬ ((2 : Int) < 2) := by omega
      have HR : Hid (Sl (encS encU) (fun b => w.heap.size ≤ b) wr (.slice (some ⟨Bo, 0, none⟩) 2 2) (chk 2 (behI x p.Q dr 3 k) 2) ∧ TI (k + 3) wr ∧ w.grownBy wr (some g)) := Lib.hid (by
        have hs := ((HS1.out.bounded.kept HGD.out).keep HX.out.2 (fun b hb e => by injection e with e; have := HBS.out; have := hb.2; omega)).more (Y := fun b => w.heap.size ≤ b) fun b _ hb => Nat.le_trans HG0.out.size hb.1
        refine ⟨pieces_sl hs (by decide) (by decide) (by rw [behI_len]) HX.out.1 (by have := HBB.out; have := HBS.out; omega), HT.out.keep (HT.out.keep HI1.out HGD.out (by simp)) HX.out.2 (fun b e hb => by injection e with e; have := HOB.out b hb; have := HBB.out; have := HBS.out; omega), (HG1.out.trans (HGD.out.but _)).andThen HX.out.2 (fun b e => .inl (by injection e with e; have := HBB.out; have := HBS.out; omega))⟩)
      clear HX
      go_wp2
      go_ret
      exact ⟨_, rfl, HR.out⟩
    | succ m =>
      have hj2 : j < 2 := by omega
      have hjI : (j : Int) < 2 := by omega
      have hj0 : (0 : Int) ≤ (j : Int) := Int.natCast_nonneg j
      have hb := HX.out.1
      have c0 : wr.cell? ⟨Bo, j, none⟩ = some (.slice none 0 0) := by rw [hb.cell j]; simp [cellsT, hj2]
      have f0 := hb.free
      have HFIN : Hid (Bk (wr.setCell ⟨Bo, j, none⟩ (.slice (some ⟨gb, ob + j * 2, none⟩) ((j + 1) * 2 - j * 2) ((j + 1) * 2 - j * 2))) Bo 25 (cellsT gb ob 2 (j + 1)).toArray ∧ D0.grownBy (wr.setCell ⟨Bo, j, none⟩ (.slice (some ⟨gb, ob + j * 2, none⟩) ((j + 1) * 2 - j * 2) ((j + 1) * 2 - j * 2))) (some Bo)) := Lib.hid ⟨(hb.set j _).of_eq (by
        rw [show (j + 1) * 2 - j * 2 = 2 by omega, ← cellsT_set]
        simp), HX.out.2.trans (grownSet wr Bo _ _)⟩
      clear hb
      go_wp2_with fail
      go_roundg m
      case measure => omega
      case rel => exact ⟨j + 1, by omega, by go_num, HFIN⟩
set_option maxRecDepth 100000 in
set_option maxHeartbeats 4000000 in
theorem two3_any {g : Nat} {dr : Nat → Int} {TI : Nat → World → Prop} {bl : Nat → Prop} {most : Nat} (p : Par) (hT : Tp g p.Q dr TI bl most) (x : Int) (k : Nat) (w : World) (hx : U64 x) (hq : U64 p.Q) (hq0 : 0 < p.Q) (ht : p.T = 2) (hk : k + 8 ≤ most) (hI : TI k w) :
    Calls Tryz.prog 89 #[p.v, .int .u64 x, .func (.func 80) #[.pointer (some ⟨g, 0, none⟩)] #[]] w fun e w' => ∃ v, e = .returned v ∧ Sl (encS encU) (fun b => w.heap.size ≤ b) w' v (chk 3 (behI x p.Q dr 8 k) 3) ∧ TI (k + 8) w' ∧ w.grownBy w' (some g) := by
  obtain ⟨w0, hw0⟩ : ∃ y, y = w.alloc (Obj.cells p.cells 24) := ⟨_, rfl⟩
  have HG0 : Hid (w.grownBy w0 none) := Lib.hid (by rw [hw0]; exact World.grownBy_alloc w _ none)
  have HB0 : Hid (Bk w0 w.heap.size 24 p.cells) := Lib.hid (by rw [hw0]; exact Bk.new w _ _)
  have HI0 : Hid (TI k w0) := Lib.hid (hT.keep hI HG0.out (by simp))
  have HBH := Lib.hid (behind_any hT x 8 k w0 hx hq hq0 (by decide) hk HI0.out)
  have hp0 := HB0.out.prule
  have HT := Lib.hid hT
  have HOB : Hid (∀ b, bl b → b < w.heap.size) := Lib.hid (fun b hb => hT.old hI hb)
  have HGW : Hid (g < w.heap.size) := Lib.hid (hT.old hI hT.own)
  clear hT hI hx hq hq0
  go_enter Tryz.func89, Tryz.ntmps89
  go_wp2_with fail
  rw [← hw0]
  clear hw0
  go_wp2_with fail
  refine HBH.out.mono ?_
  rintro e w1 ⟨v8, rfl, hs1, hi1, hg1⟩
  obtain ⟨A8, c8, e8, hc8, hc8b⟩ := hs1.form
  rw [behI_len] at e8 hc8
  obtain ⟨gb, ob, c8', e8', hgb, hgb2, _, _⟩ := hs1.atU (k := 0) (by rw [behI_len]; decide)
  rw [e8] at e8'
  injection e8' with e81 e82 e83
  subst e81
  have e8 : v8 = .slice (some ⟨gb, ob, none⟩) 9 c8 := e8
  have hc8 : 9 ≤ c8 := hc8
  subst e8
  have HS1 := Lib.hid hs1
  have HI1 := Lib.hid hi1
  have HG1 : Hid (w.grownBy w1 (some g)) := Lib.hid ((HG0.out.but _).trans hg1)
  have HBB : Hid (w.heap.size ≤ gb ∧ gb < w1.heap.size) := Lib.hid ⟨Nat.le_trans HG0.out.size hgb2, hgb⟩
  have hmk := run_make_row' (P := Tryz.prog) 34 25 (.slice none 0 0) 24 Tryz.underlying34 info_nums rfl .i64 .i64 3 (by decide) (by decide) w1
  have hmk : (Instr.makeSlice 34 (.int .i64 3) (.int .i64 3)).run Tryz.prog w1 = .ok (.slice (some ⟨w1.heap.size, 0, none⟩) 3 3) (w1.alloc (.cells (madeCells #[.slice none 0 0] 3) 25)) := hmk
  obtain ⟨D0, hD0⟩ : ∃ y, y = w1.alloc (.cells (madeCells #[.slice none 0 0] 3) 25) := ⟨_, rfl⟩
  obtain ⟨Bo, hBo⟩ : ∃ y, y = w1.heap.size := ⟨_, rfl⟩
  have HGD : Hid (w1.grownBy D0 none) := Lib.hid (by rw [hD0]; exact World.grownBy_alloc _ _ none)
  have HBO : Hid (Bk D0 Bo 25 (cellsT gb ob 3 0).toArray) := Lib.hid (by
    rw [hD0, hBo]
    exact (Bk.new w1 25 (madeCells #[.slice none 0 0] 3)).of_eq (Array.toList_inj.1 (by rw [toList_madeCells_one]; rfl)))
  have HBS : Hid (Bo = w1.heap.size) := Lib.hid hBo
  have hp1 : ∀ o, w1.cell? ⟨w.heap.size, o, none⟩ = (#[.int .u64 p.P, .int .u64 p.Q, .int .u64 p.G, .int .u64 p.H, .int .i64 p.Nodes, .int .i64 p.N, .int .i64 p.T, .int .i64 p.K, .int .i64 p.D, .int .i64 p.R, .int .i64 p.M, .int .i64 p.X] : Array Value)[o]? := (HB0.out.grown hg1 (fun e => by injection e with e; have := HGW.out; omega)).prule
  clear hs1 hi1 hg1 hgb hgb2 e82 e83 hc8b
  go_upto_region 5 with (fail)
  rw [← hD0, ← hBo]
  clear hD0 hBo hmk hp1
  go_loopg [27] 3 (fun gk s27 wx => ∃ j : Nat, j + gk = 3 ∧ s27 = .int .i64 j ∧ Hid (Bk wx Bo 25 (cellsT gb ob 3 j).toArray ∧ D0.grownBy wx (some Bo)))
  case atStart => exact ⟨0, by omega, rfl, Lib.hid ⟨HBO.out, World.grownBy.refl _ _⟩⟩
  case round =>
    obtain ⟨j, hj, rfl, HX⟩ := hrel
    cases gk with
    | zero =>
      obtain rfl : j = 3 := by omega
      have hno : ¬ ((3 : Int) < 3) := by omega
      have HR : Hid (Sl (encS encU) (fun b => w.heap.size ≤ b) wr (.slice (some ⟨Bo, 0, none⟩) 3 3) (chk 3 (behI x p.Q dr 8 k) 3) ∧ TI (k + 8) wr ∧ w.grownBy wr (some g)) := Lib.hid (by
        have hs := ((HS1.out.bounded.kept HGD.out).keep HX.out.2 (fun b hb e => by injection e with e; have := HBS.out; have := hb.2; omega)).more (Y := fun b => w.heap.size ≤ b) fun b _ hb => Nat.le_trans HG0.out.size hb.1
        refine ⟨pieces_sl hs (by decide) (by decide) (by rw [behI_len]) HX.out.1 (by have := HBB.out; have := HBS.out; omega), HT.out.keep (HT.out.keep HI1.out HGD.out (by simp)) HX.out.2 (fun b e hb => by injection e with e; have := HOB.out b hb; have := HBB.out; have := HBS.out; omega), (HG1.out.trans (HGD.out.but _)).andThen HX.out.2 (fun b e => .inl (by injection e with e; have := HBB.out; have := HBS.out; omega))⟩)
      clear HX
      go_wp2
      go_ret
      exact ⟨_, rfl, HR.out⟩
    | succ m =>
      have hj2 : j < 3 := by omega
      have hjI : (j : Int) < 3 := by omega
      have hj0 : (0 : Int) ≤ (j : Int) := Int.natCast_nonneg j
      have hb := HX.out.1
      have c0 : wr.cell? ⟨Bo, j, none⟩ = some (.slice none 0 0) := by rw [hb.cell j]; simp [cellsT, hj2]
      have f0 := hb.free
      have HFIN : Hid (Bk (wr.setCell ⟨Bo, j, none⟩ (.slice (some ⟨gb, ob + j * 3, none⟩) ((j + 1) * 3 - j * 3) ((j + 1) * 3 - j * 3))) Bo 25 (cellsT gb ob 3 (j + 1)).toArray ∧ D0.grownBy (wr.setCell ⟨Bo, j, none⟩ (.slice (some ⟨gb, ob + j * 3, none⟩) ((j + 1) * 3 - j * 3) ((j + 1) * 3 - j * 3))) (some Bo)) := Lib.hid ⟨(hb.set j _).of_eq (by
        rw [show (j + 1) * 3 - j * 3 = 3 by omega, ← cellsT_set]
        simp), HX.out.2.trans (grownSet wr Bo _ _)⟩
      clear hb
      go_wp2_with fail
      go_roundg m
      case measure => omega
      case rel => exact ⟨j + 1, by omega, by go_num, HFIN⟩
end Go.Proofs.YtnjkelojkoeihaaGreatDoor

namespace Go.Proofs.YtnjkelojkoeihaaGreatDoor
open Go Go.RowKit

/-- Pairs, cell by cell. -/
def pcs (l : List (Int × Int)) : List Value := l.flatMap fun x => [.int .u64 x.1, .int .u64 x.2]
theorem pcs_cons (x : Int × Int) (l : List (Int × Int)) : pcs (x :: l) = .int .u64 x.1 :: .int .u64 x.2 :: pcs l := rfl
theorem pcs_get0 : ∀ (l : List (Int × Int)) (k : Nat) (h : k < l.length), (pcs l)[k * 2]? = some (.int .u64 l[k].1)
  | x :: l, 0, _ => rfl
  | x :: l, k + 1, h => by
    rw [pcs_cons, show (k + 1) * 2 = k * 2 + 1 + 1 by omega, List.getElem?_cons_succ, List.getElem?_cons_succ]
    exact pcs_get0 l k (by simpa using h)
theorem pcs_get1 : ∀ (l : List (Int × Int)) (k : Nat) (h : k < l.length), (pcs l)[k * 2 + 1]? = some (.int .u64 l[k].2)
  | x :: l, 0, _ => rfl
  | x :: l, k + 1, h => by
    rw [pcs_cons, show (k + 1) * 2 + 1 = k * 2 + 1 + 1 + 1 by omega, List.getElem?_cons_succ, List.getElem?_cons_succ]
    exact pcs_get1 l k (by simpa using h)
theorem pcs_set0 (a : Int) : ∀ (l : List (Int × Int)) (k : Nat) (h : k < l.length), (pcs l).set (k * 2) (.int .u64 a) = pcs (l.set k (a, l[k].2))
  | x :: l, 0, _ => rfl
  | x :: l, k + 1, h => by
    rw [pcs_cons, show (k + 1) * 2 = k * 2 + 1 + 1 by omega, List.set_cons_succ, List.set_cons_succ, pcs_set0 a l k (by simpa using h)]
    rfl
theorem pcs_set1 (a : Int) : ∀ (l : List (Int × Int)) (k : Nat) (h : k < l.length), (pcs l).set (k * 2 + 1) (.int .u64 a) = pcs (l.set k (l[k].1, a))
  | x :: l, 0, _ => rfl
  | x :: l, k + 1, h => by
    rw [pcs_cons, show (k + 1) * 2 + 1 = k * 2 + 1 + 1 + 1 by omega, List.set_cons_succ, List.set_cons_succ, pcs_set1 a l k (by simpa using h)]
    rfl
theorem pcs_rep : ∀ n : Nat, pcs (List.replicate n (0, 0)) = List.replicate (n * 2) (.int .u64 0)
  | 0 => rfl
  | n + 1 => by
    rw [List.replicate_succ, pcs_cons, pcs_rep n, show (n + 1) * 2 = n * 2 + 1 + 1 by omega, List.replicate_succ, List.replicate_succ]
theorem made_pairs (n : Nat) : (madeCells #[.int .u64 0, .int .u64 0] (n * 2)).toList = pcs (List.replicate n (0, 0)) := by
  rw [pcs_rep]
  refine List.ext_getElem (by simp [size_madeCells]) fun j h1 h2 => ?_
  have hj : j < n * 2 := by simpa using h2
  simp only [madeCells, Array.toList_map, List.getElem_map, List.getElem_replicate]
  simp
  have : j % 2 = 0 ∨ j % 2 = 1 := by omega
  rcases this with h | h <;> simp [h]
theorem sl_pcs {w : World} {g : Nat} {l : List (Int × Int)} (h : Bk w g 58 (pcs l).toArray) (hu : ∀ x ∈ l, U64 x.1 ∧ U64 x.2) (hb : l.length ≤ 100000) : Sl encP TT w (.slice (some ⟨g, 0, none⟩) l.length l.length) l := by
  refine Sl.block h trivial (l.map fun x => [.int .u64 x.1, .int .u64 x.2]) (by simp) (fun i hi hi' => ?_) ?_ (Nat.le_refl _) (by omega)
  · simp only [List.getElem_map]
    exact ⟨rfl, hu _ (List.getElem_mem hi)⟩
  · simp [pcs, List.flatMap]
theorem sl_pcs' {X : Nat → Prop} {w : World} {g : Nat} {l : List (Int × Int)} (h : Bk w g 58 (pcs l).toArray) (hX : X g) (hu : ∀ x ∈ l, U64 x.1 ∧ U64 x.2) (hb : l.length ≤ 100000) : Sl encP X w (.slice (some ⟨g, 0, none⟩) l.length l.length) l := by
  refine Sl.block h hX (l.map fun x => [.int .u64 x.1, .int .u64 x.2]) (by simp) (fun i hi hi' => ?_) ?_ (Nat.le_refl _) (by omega)
  · simp only [List.getElem_map]
    exact ⟨rfl, hu _ (List.getElem_mem hi)⟩
  · simp [pcs, List.flatMap]
theorem make_pairs (n : Nat) (hn : n ≤ 100000) : ∀ w', (Instr.makeSlice 33 (.int .i64 (n : Int)) (.int .i64 (n : Int))).run Tryz.prog w' = .ok (.slice (some ⟨w'.heap.size, 0, none⟩) n n) (w'.alloc (.cells (madeCells #[.int .u64 0, .int .u64 0] (n * 2)) 58)) := fun w' => by
  obtain ⟨i, hi, hz⟩ := Option.map_eq_some_iff.1 info_pair
  simp only [Prod.mk.injEq] at hz
  obtain ⟨hz1, hz2, hz3⟩ := hz
  have hr := run_make (P := Tryz.prog) w' 33 58 i _ Tryz.underlying33 hi hz1 .i64 .i64 (n : Int) (n : Int) (by omega) (Int.le_refl _) (by rw [hz3]; omega) (by omega)
  rw [hz2, Int.toNat_natCast] at hr
  exact hr
end Go.Proofs.YtnjkelojkoeihaaGreatDoor

namespace Go.Proofs.YtnjkelojkoeihaaGreatDoor
open Go Go.RowKit

/-- Two lists, number by number; of which the first j are filled in. -/
def zipP (a b : List Int) (n : Nat) : List (Int × Int) := (List.range n).map fun k => (a[k]?.getD 0, b[k]?.getD 0)
def zipJ (a b : List Int) (n j : Nat) : List (Int × Int) := (List.range n).map fun k => if k < j then (a[k]?.getD 0, b[k]?.getD 0) else (0, 0)
theorem zipJ_len (a b : List Int) (n j : Nat) : (zipJ a b n j).length = n := by simp [zipJ]
theorem zipJ_zero (a b : List Int) (n : Nat) : zipJ a b n 0 = List.replicate n (0, 0) := by
  refine List.ext_getElem (by simp [zipJ]) fun j h1 h2 => ?_
  simp [zipJ]
theorem zipJ_all (a b : List Int) (n : Nat) : zipJ a b n n = zipP a b n := List.map_congr_left fun _ hk => if_pos (List.mem_range.1 hk)
theorem zipJ_set (a b : List Int) (n j : Nat) : (zipJ a b n j).set j (a[j]?.getD 0, b[j]?.getD 0) = zipJ a b n (j + 1) := by
  refine List.ext_getElem (by simp [zipJ]) fun k h1 h2 => ?_
  rw [List.getElem_set]
  simp only [zipJ, List.getElem_map, List.getElem_range]
  split
  · rename_i e
    subst e
    rw [if_pos (by omega)]
  · rename_i e
    by_cases h : k < j
    · rw [if_pos h, if_pos (by omega)]
    · rw [if_neg h, if_neg (by omega)]
set_option maxRecDepth 100000 in
set_option maxHeartbeats 2000000 in
theorem dpairs2_any (v1 v2 : Value) (a b : List Int) (n : Nat) (X Y : Nat → Prop) (w : World) (h1 : Sl encU X w v1 a) (h2 : Sl encU Y w v2 b) (ha : a.length = n) (hb : b.length = n) (hn : n ≤ 1000) :
    Calls Tryz.prog 91 #[v1, v2] w (Gives encP (fun g => w.heap.size ≤ g) w (zipP a b n)) := by
  have H1 := Lib.hid h1.bounded
  have H2 := Lib.hid h2.bounded
  obtain ⟨A1, c1, rfl, _, _⟩ := h1.form
  obtain ⟨A2, c2, rfl, _, _⟩ := h2.form
  have HA := Lib.hid ha
  have HB := Lib.hid hb
  rw [ha] at H1 ⊢
  rw [hb] at H2 ⊢
  have hmk := make_pairs n (by omega) w
  obtain ⟨D0, hD0⟩ : ∃ y, y = w.alloc (.cells (madeCells #[.int .u64 0, .int .u64 0] (n * 2)) 58) := ⟨_, rfl⟩
  obtain ⟨Bo, hBo⟩ : ∃ y, y = w.heap.size := ⟨_, rfl⟩
  have HGD : Hid (w.grownBy D0 none) := Lib.hid (by rw [hD0]; exact World.grownBy_alloc _ _ none)
  have HBO : Hid (Bk D0 Bo 58 (pcs (zipJ a b n 0)).toArray) := Lib.hid (by
    rw [hD0, hBo, zipJ_zero, ← made_pairs]
    exact Bk.new w _ _)
  have HX1 : Hid (∀ wx, D0.grownBy wx (some Bo) → Sl encU (fun g => g < Bo) wx (.slice A1 n c1) a) := Lib.hid (fun wx hg => ((H1.out.kept HGD.out).more (Y := fun g => g < Bo) fun g _ hx => by rw [hBo]; exact hx.2).keep hg (fun g hx e => by injection e with e; omega))
  have HX2 : Hid (∀ wx, D0.grownBy wx (some Bo) → Sl encU (fun g => g < Bo) wx (.slice A2 n c2) b) := Lib.hid (fun wx hg => ((H2.out.kept HGD.out).more (Y := fun g => g < Bo) fun g _ hx => by rw [hBo]; exact hx.2).keep hg (fun g hx e => by injection e with e; omega))
  have HUA : Hid (∀ k, U64 (a[k]?.getD 0) ∧ U64 (b[k]?.getD 0)) := Lib.hid (fun k => by
    have key : ∀ (l : List Int) (Z : Nat → Prop) (v : Value), Sl encU Z w v l → U64 (l[k]?.getD 0) := fun l Z v h => by
      rcases Nat.lt_or_ge k l.length with hk | hk
      · obtain ⟨_, _, _, _, _, _, _, u⟩ := h.atU hk
        rw [List.getElem?_eq_getElem hk]
        exact u
      · rw [List.getElem?_eq_none hk]
        exact ⟨by decide, by decide⟩
    exact ⟨key a X _ h1, key b Y _ h2⟩)
  have HBS : Hid (Bo = w.heap.size) := Lib.hid hBo
  clear h1 h2 ha hb
  go_enter Tryz.func91, Tryz.ntmps91
  go_upto_region 3 with (fail)
  rw [← hD0, ← hBo]
  clear hD0 hBo hmk
  go_loopg [12] n (fun g s12 wx => ∃ j : Nat, j + g = n ∧ s12 = .int .i64 j ∧ Hid (Bk wx Bo 58 (pcs (zipJ a b n j)).toArray ∧ D0.grownBy wx (some Bo)))
  case atStart => exact ⟨0, by omega, rfl, Lib.hid ⟨HBO.out, World.grownBy.refl _ _⟩⟩
  case round =>
    obtain ⟨j, hj, rfl, HX⟩ := hrel
    cases gk with
    | zero =>
      obtain rfl : j = n := by omega
      have hno : ¬ ((j : Int) < (j : Int)) := by omega
      have HR : Hid (Sl encP (fun g => w.heap.size ≤ g) wr (.slice (some ⟨Bo, 0, none⟩) j j) (zipP a b j) ∧ w.grownBy wr none) := Lib.hid ⟨by
        have hsl := sl_pcs' (X := fun g => w.heap.size ≤ g) HX.out.1 (by rw [HBS.out]; exact Nat.le_refl _) (fun x hx => by
          obtain ⟨k, _, rfl⟩ := List.mem_map.1 hx
          split
          · exact HUA.out k
          · exact ⟨⟨by decide, by decide⟩, ⟨by decide, by decide⟩⟩) (by rw [zipJ_len]; omega)
        rw [zipJ_len, zipJ_all] at hsl
        exact hsl, grown_up HGD.out HX.out.2 (fun g e => by injection e with e; rw [← e, HBS.out]; exact Nat.le_refl _)⟩
      clear HX
      go_wp2
      go_ret
      exact ⟨_, rfl, HR.out.1, HR.out.2⟩
    | succ m =>
      have hjn : (j : Int) < (n : Int) := by omega
      have hja : j < a.length := by rw [HA.out]; omega
      have hjb : j < b.length := by rw [HB.out]; omega
      have hj0 : (0 : Int) ≤ (j : Int) := Int.natCast_nonneg j
      obtain ⟨hbo, hgd⟩ := HX.out
      obtain ⟨g1, o1, c1', e1, hl1, hg1, hc1, hu1⟩ := (HX1.out _ hgd).atU hja
      injection e1 with e11 e12 e13
      subst e11 e13
      obtain ⟨g2, o2, c2', e2, hl2, hg2, hc2, hu2⟩ := (HX2.out _ hgd).atU hjb
      injection e2 with e21 e22 e23
      subst e21 e23
      have HZL : Hid (j < (zipJ a b n j).length) := Lib.hid (by rw [zipJ_len]; omega)
      have HAT : Hid (((pcs (zipJ a b n j)).set (j * 2) (.int .u64 a[j])).set (j * 2 + 1) (.int .u64 b[j]) = pcs (zipJ a b n (j + 1))) := Lib.hid (by
        have hs := zipJ_set a b n j
        rw [List.getElem?_eq_getElem hja, List.getElem?_eq_getElem hjb, Option.getD_some, Option.getD_some] at hs
        rw [pcs_set0 _ _ j HZL.out, pcs_set1 _ _ j (by simpa using HZL.out), List.set_set, ← hs]
        simp)
      obtain ⟨x, hx⟩ : ∃ y, y = a[j] := ⟨_, rfl⟩
      obtain ⟨y, hy⟩ : ∃ y, y = b[j] := ⟨_, rfl⟩
      rw [← hx] at hc1 hu1 HAT
      rw [← hy] at hc2 hu2 HAT
      have HDR : Hid (wr.grownBy wr.drew none) := Lib.hid (grown_drewN' _ 1)
      have HLD : Hid (∀ W, wr.drew.grownBy W none → W.cell? ⟨g1, o1 + j, none⟩ = some (.int .u64 x) ∧ W.cell? ⟨g2, o2 + j, none⟩ = some (.int .u64 y)) := Lib.hid (fun W hg => ⟨cell_kept hc1 (HDR.out.trans hg) (by simp), cell_kept hc2 (HDR.out.trans hg) (by simp)⟩)
      have HBK := Lib.hid hbo
      have HGK := Lib.hid hgd
      obtain ⟨p1, p2, HPP⟩ : ∃ p1 p2 : Int, Hid ((pcs (zipJ a b n j)).toArray[j * 2]? = some (.int .u64 p1) ∧ (pcs (zipJ a b n j)).toArray[j * 2 + 1]? = some (.int .u64 p2)) := ⟨_, _, Lib.hid ⟨by simpa using pcs_get0 _ j HZL.out, by simpa using pcs_get1 _ j HZL.out⟩⟩
      clear hbo hgd hc1 hc2 hl1 hl2 hg1 hg2 hu1 hu2 hx hy hja hjb e12 e22 HX
      go_upto_region 5 with (fail)
      refine wp_region_mono 12 (by kernel_rfl) (by kernel_rfl) ?_
      -- op 0 (slot 15): move
      refine MonoR.step (Pv.eq (.slice (some ⟨Bo, 0, none⟩) n n)) [] (by kernel_rfl) (fun w' hw' => ?_) ?_
      · refine ask_do rfl fun K hK => ?_
        go_simp
        exact hK _ _ rfl rfl (World.grownBy.refl _ none)
      -- op 1 (slot 16): move
      refine MonoR.step (Pv.eq (.int .i64 (j : Int))) [] (by kernel_rfl) (fun w' hw' => ?_) ?_
      · refine ask_do rfl fun K hK => ?_
        go_simp
        exact hK _ _ rfl rfl (World.grownBy.refl _ none)
      -- op 2 (slot 17): move
      refine MonoR.step (Pv.eq (.slice (some ⟨g1, o1, none⟩) n c1)) [] (by kernel_rfl) (fun w' hw' => ?_) ?_
      · refine ask_do rfl fun K hK => ?_
        go_simp
        exact hK _ _ rfl rfl (World.grownBy.refl _ none)
      -- op 3 (slot 18): move
      refine MonoR.step (Pv.eq (.int .i64 (j : Int))) [] (by kernel_rfl) (fun w' hw' => ?_) ?_
      · refine ask_do rfl fun K hK => ?_
        go_simp
        exact hK _ _ rfl rfl (World.grownBy.refl _ none)
      -- op 4 (slot 19): indexAddr
      refine MonoR.step (Pv.eq (.pointer (some ⟨g1, o1 + j, none⟩))) [(2, 17), (3, 18)] (by kernel_rfl) (fun w' hw' => ?_) ?_
      · rintro _ rfl
        rintro _ rfl
        refine ask_do rfl fun K hK => ?_
        go_simp
        exact hK _ _ rfl rfl (World.grownBy.refl _ none)
      -- op 5 (slot 20): load
      refine MonoR.step (Pv.eq (.int .u64 x)) [(4, 19)] (by kernel_rfl) (fun w' hw' => ?_) ?_
      · rintro _ rfl
        refine ask_do rfl fun K hK => ?_
        obtain ⟨q0, q1⟩ := HLD.out w' hw'
        go_simp
        exact hK _ _ rfl rfl (World.grownBy.refl _ none)
      -- op 6 (slot 21): move
      refine MonoR.step (Pv.eq (.slice (some ⟨g2, o2, none⟩) n c2)) [] (by kernel_rfl) (fun w' hw' => ?_) ?_
      · refine ask_do rfl fun K hK => ?_
        go_simp
        exact hK _ _ rfl rfl (World.grownBy.refl _ none)
      -- op 7 (slot 22): move
      refine MonoR.step (Pv.eq (.int .i64 (j : Int))) [] (by kernel_rfl) (fun w' hw' => ?_) ?_
      · refine ask_do rfl fun K hK => ?_
        go_simp
        exact hK _ _ rfl rfl (World.grownBy.refl _ none)
      -- op 8 (slot 23): indexAddr
      refine MonoR.step (Pv.eq (.pointer (some ⟨g2, o2 + j, none⟩))) [(6, 21), (7, 22)] (by kernel_rfl) (fun w' hw' => ?_) ?_
      · rintro _ rfl
        rintro _ rfl
        refine ask_do rfl fun K hK => ?_
        go_simp
        exact hK _ _ rfl rfl (World.grownBy.refl _ none)
      -- op 9 (slot 24): load
      refine MonoR.step (Pv.eq (.int .u64 y)) [(8, 23)] (by kernel_rfl) (fun w' hw' => ?_) ?_
      · rintro _ rfl
        refine ask_do rfl fun K hK => ?_
        obtain ⟨q0, q1⟩ := HLD.out w' hw'
        go_simp
        exact hK _ _ rfl rfl (World.grownBy.refl _ none)
      -- op 10 (slot 25): build
      refine MonoR.step (Pv.eq (.agg #[.int .u64 x, .int .u64 y])) [(5, 20), (9, 24)] (by kernel_rfl) (fun w' hw' => ?_) ?_
      · rintro _ rfl
        rintro _ rfl
        refine ask_do rfl fun K hK => ?_
        go_simp
        exact hK _ _ rfl rfl (World.grownBy.refl _ none)
      -- op 11 (slot 26): indexAddr
      refine MonoR.step (Pv.eq (.pointer (some ⟨Bo, j * 2, none⟩))) [(0, 15), (1, 16)] (by kernel_rfl) (fun w' hw' => ?_) ?_
      · rintro _ rfl
        rintro _ rfl
        refine ask_do rfl fun K hK => ?_
        go_simp
        exact hK _ _ rfl rfl (World.grownBy.refl _ none)
      
      intro w3 hw3
      intro y0 k0 y1 k1 y2 k2 y3 k3 y4 k4 y5 k5 y6 k6 y7 k7 y8 k8 y9 k9 y10 k10 y11 k11
      show wpList Tryz.prog _ _ _ _ w3
      simp only [Act.put, List.setIfInBounds_toArray, List.set_cons_zero, List.set_cons_succ]
      have e10 : y10 = .agg #[.int .u64 x, .int .u64 y] := k10
      have e11 : y11 = .pointer (some ⟨Bo, j * 2, none⟩) := k11
      subst e10 e11
      have hb3 : Bk w3 Bo 58 (pcs (zipJ a b n j)).toArray := HBK.out.grown (HDR.out.trans hw3) (by simp)
      have d0 : w3.cell? ⟨Bo, j * 2, none⟩ = some (.int .u64 p1) := by rw [hb3.cell]; exact HPP.out.1
      have d1 : w3.cell? ⟨Bo, j * 2 + 1, none⟩ = some (.int .u64 p2) := by rw [hb3.cell]; exact HPP.out.2
      have f3 := hb3.free
      have HFIN : Hid (Bk ((w3.setCell ⟨Bo, j * 2, none⟩ (.int .u64 x)).setCell ⟨Bo, j * 2 + 1, none⟩ (.int .u64 y)) Bo 58 (pcs (zipJ a b n (j + 1))).toArray ∧ D0.grownBy ((w3.setCell ⟨Bo, j * 2, none⟩ (.int .u64 x)).setCell ⟨Bo, j * 2 + 1, none⟩ (.int .u64 y)) (some Bo)) := Lib.hid ⟨((hb3.set (j * 2) (.int .u64 x)).set (j * 2 + 1) (.int .u64 y)).of_eq (by rw [← HAT.out]; simp), (HGK.out.trans ((HDR.out.trans hw3).but _)).trans ((grownSet w3 Bo _ _).trans (grownSet _ Bo _ _))⟩
      clear hw3 hb3 k0 k1 k2 k3 k4 k5 k6 k7 k8 k9 k10 k11 HLD
      go_wp2_with fail
      go_roundg m
      case measure => omega
      case rel => exact ⟨j + 1, by omega, by go_num, HFIN⟩
end Go.Proofs.YtnjkelojkoeihaaGreatDoor

namespace Go.Proofs.YtnjkelojkoeihaaGreatDoor
open Go Go.RowKit

theorem ret_i64 {a b : Int} (h : a = b) : Ending.returned (.int .i64 a) = .returned (.int .i64 b) := by rw [h]
/-- The value of a list of coefficients, the highest one first. -/
def evalGo (q x : Int) (l : List Int) (o : Int) : Int := l.foldl (fun o y => addI (mulI o x q) y q) o
def evalI (q : Int) (c : List Int) (x : Int) : Int := evalGo q x c.reverse 0
theorem evalGo_U64 (q x : Int) : ∀ (l : List Int) (o : Int), U64 o → U64 (evalGo q x l o)
  | [], _, h => h
  | _ :: l, _, _ => evalGo_U64 q x l _ (addI_U64 _ _ _)
theorem evalI_U64 (q : Int) (c : List Int) (x : Int) : U64 (evalI q c x) := evalGo_U64 q x _ _ ⟨by decide, by decide⟩
theorem evalGo_snoc (q x : Int) (l : List Int) (j : Nat) (h : j < l.length) (o : Int) : evalGo q x (l.take (j + 1)) o = addI (mulI (evalGo q x (l.take j) o) x q) l[j] q := by
  unfold evalGo
  rw [List.take_succ_eq_append_getElem h, List.foldl_append]
  rfl
theorem reverse_at (l : List Int) (j : Nat) (h : j < l.length) : l.reverse[j]'(by simpa using h) = l[l.length - 1 - j]'(by omega) := by simp
set_option maxRecDepth 100000 in
set_option maxHeartbeats 2000000 in
theorem eval_any (v : Value) (l : List Int) (x q : Int) (X : Nat → Prop) (w : World) (h : Sl encU X w v l) (hx : U64 x) :
    Calls Tryz.prog 59 #[v, .int .u64 x, .int .u64 q] w fun e w' => e = .returned (.int .u64 (evalI q l x)) ∧ w.grownBy w' none := by
  have H := Lib.hid h
  have HX := Lib.hid hx
  obtain ⟨A, c, rfl, hc1, hc2⟩ := h.form
  have HST : Hid (w.grownBy w none ∧ U64 0 ∧ (0 : Int) = evalGo q x (l.reverse.take 0) 0) := Lib.hid ⟨World.grownBy.refl w none, ⟨by decide, by decide⟩, rfl⟩
  clear h hx
  obtain ⟨n, hn⟩ : ∃ n, n = l.length := ⟨_, rfl⟩
  have HN := Lib.hid hn
  rw [← hn] at hc1 ⊢
  have hn9 : (n : Int) ≤ 9223372036854775807 := by omega
  clear hn
  go_enter Tryz.func59, Tryz.ntmps59
  go_wp2_with fail
  go_loopg [7, 11] n (fun g s7 s11 wx => ∃ (j : Nat) (o : Int), j + g = n ∧ s11 = .int .i64 j ∧ s7 = .int .u64 o ∧ Hid (w.grownBy wx none ∧ U64 o ∧ o = evalGo q x (l.reverse.take j) 0))
  case atStart => exact ⟨0, 0, by omega, rfl, rfl, HST⟩
  case round =>
    obtain ⟨j, o, hj, rfl, rfl, HR⟩ := hrel
    cases gk with
    | zero =>
      obtain rfl : j = n := by omega
      have HE : Hid (o = evalI q l x) := Lib.hid (by rw [HR.out.2.2, HN.out, evalI, List.take_of_length_le (by simp)])
      have HG := Lib.hid HR.out.1
      clear HR HST
      go_wp2
      go_ret
      exact ⟨ret_u64 HE.out, HG.out⟩
    | succ m =>
      have hjn : (j : Int) < (n : Int) := by omega
      have hjN : j < l.length := by rw [← HN.out]; omega
      obtain ⟨r, hr⟩ : ∃ r, r + j + 1 = n := ⟨m, by omega⟩
      have hrl : r < l.length := by rw [← HN.out]; omega
      obtain ⟨g, of, c', e, _, _, hcu, hu⟩ := (H.out.kept HR.out.1).atU hrl
      injection e with e1 e2 e3
      subst e1 e3
      have HGd : Hid (w.grownBy wr.drew none) := Lib.hid (grownBy_drewN HR.out.1 1)
      have HC0 := Lib.hid (fun (w' : World) (hw : wr.drew.grownBy w' none) => (H.out.kept (HGd.out.trans hw)).atU hrl)
      have HC : Hid (∀ w', wr.drew.grownBy w' none → w'.cell? ⟨g, of + r, none⟩ = some (.int .u64 l[r])) := Lib.hid (fun w' hw => by
        obtain ⟨g2, of2, c2, e2, _, _, h3, _⟩ := HC0.out w' hw
        injection e2 with e21 e22 e23
        injection e21 with e21
        injection e21 with e24 e25
        subst e24 e25
        exact h3)
      have HY := Lib.hid hu
      have HO := Lib.hid HR.out.2.1
      have HSN : Hid (addI (mulI o x q) l[r] q = evalGo q x (l.reverse.take (j + 1)) 0) := Lib.hid (by
        rw [evalGo_snoc q x l.reverse j (by simpa using hjN), reverse_at l j hjN, ← HR.out.2.2]
        congr 2
        have := HN.out
        omega)
      have e4 : IntKind.i64.wrap ((n : Int) - 1) = (n : Int) - 1 := IntWalk.i64_in _ (by omega)
      have e5 : IntKind.i64.wrap ((n : Int) - 1 - (j : Int)) = (r : Int) := by rw [IntWalk.i64_in _ (by omega)]; omega
      have hr0 : (0 : Int) ≤ (r : Int) := by omega
      have hrn : (r : Int) < (n : Int) := by omega
      clear hcu hu HC0 HR HST e2
      generalize l[r] = y at *
      go_wp2_with fail
      refine wp_region_mono 15 (by kernel_rfl) (by kernel_rfl) ?_
      -- op 0 (slot 14): move
      refine MonoR.step (Pv.eq (.int .u64 o)) [] (by kernel_rfl) (fun w' hw' => ?_) ?_
      · refine ask_do rfl fun K hK => ?_
        go_simp
        exact hK _ _ rfl rfl (World.grownBy.refl _ none)
      -- op 1 (slot 15): move
      refine MonoR.step (Pv.eq (.int .u64 x)) [] (by kernel_rfl) (fun w' hw' => ?_) ?_
      · refine ask_do rfl fun K hK => ?_
        go_simp
        exact hK _ _ rfl rfl (World.grownBy.refl _ none)
      -- op 2 (slot 16): move
      refine MonoR.step (Pv.eq (.int .u64 q)) [] (by kernel_rfl) (fun w' hw' => ?_) ?_
      · refine ask_do rfl fun K hK => ?_
        go_simp
        exact hK _ _ rfl rfl (World.grownBy.refl _ none)
      -- op 3 (slot 17): call
      refine MonoR.step (Pv.eq (.int .u64 (mulI o x q))) [(0, 14), (1, 15), (2, 16)] (by kernel_rfl) (fun w' hw' => ?_) ?_
      · rintro _ rfl
        rintro _ rfl
        rintro _ rfl
        refine ask_do rfl fun K hK => ?_
        go_simp
        refine (mul_gr o x q w' HO.out HX.out).mono ?_
        rintro e w3 ⟨rfl, hg⟩
        exact hK _ _ rfl rfl hg
      -- op 4 (slot 18): move
      refine MonoR.step (Pv.eq (.slice (some ⟨g, of, none⟩) n c)) [] (by kernel_rfl) (fun w' hw' => ?_) ?_
      · refine ask_do rfl fun K hK => ?_
        go_simp
        exact hK _ _ rfl rfl (World.grownBy.refl _ none)
      -- op 5 (slot 19): move
      refine MonoR.step (Pv.eq (.slice (some ⟨g, of, none⟩) n c)) [] (by kernel_rfl) (fun w' hw' => ?_) ?_
      · refine ask_do rfl fun K hK => ?_
        go_simp
        exact hK _ _ rfl rfl (World.grownBy.refl _ none)
      -- op 6 (slot 20): call
      refine MonoR.step (Pv.eq (.int .i64 (n : Int))) [(5, 19)] (by kernel_rfl) (fun w' hw' => ?_) ?_
      · rintro _ rfl
        refine ask_do rfl fun K hK => ?_
        go_simp
        exact hK _ _ rfl rfl (World.grownBy.refl _ none)
      -- op 7 (slot 21): binOp
      refine MonoR.step (Pv.eq (.int .i64 ((n : Int) - 1))) [(6, 20)] (by kernel_rfl) (fun w' hw' => ?_) ?_
      · rintro _ rfl
        refine ask_do rfl fun K hK => ?_
        go_simp
        exact hK _ _ rfl rfl (World.grownBy.refl _ none)
      -- op 8 (slot 22): move
      refine MonoR.step (Pv.eq (.int .i64 (j : Int))) [] (by kernel_rfl) (fun w' hw' => ?_) ?_
      · refine ask_do rfl fun K hK => ?_
        go_simp
        exact hK _ _ rfl rfl (World.grownBy.refl _ none)
      -- op 9 (slot 23): binOp
      refine MonoR.step (Pv.eq (.int .i64 (r : Int))) [(7, 21), (8, 22)] (by kernel_rfl) (fun w' hw' => ?_) ?_
      · rintro _ rfl
        rintro _ rfl
        refine ask_do rfl fun K hK => ?_
        go_simp
        exact hK _ _ rfl rfl (World.grownBy.refl _ none)
      -- op 10 (slot 24): indexAddr
      refine MonoR.step (Pv.eq (.pointer (some ⟨g, of + r, none⟩))) [(4, 18), (9, 23)] (by kernel_rfl) (fun w' hw' => ?_) ?_
      · rintro _ rfl
        rintro _ rfl
        refine ask_do rfl fun K hK => ?_
        go_simp
        exact hK _ _ rfl rfl (World.grownBy.refl _ none)
      -- op 11 (slot 25): load
      refine MonoR.step (Pv.eq (.int .u64 y)) [(10, 24)] (by kernel_rfl) (fun w' hw' => ?_) ?_
      · rintro _ rfl
        refine ask_do rfl fun K hK => ?_
        have hc := HC.out w' hw'
        go_simp
        exact hK _ _ rfl rfl (World.grownBy.refl _ none)
      -- op 12 (slot 26): move
      refine MonoR.step (Pv.eq (.int .u64 q)) [] (by kernel_rfl) (fun w' hw' => ?_) ?_
      · refine ask_do rfl fun K hK => ?_
        go_simp
        exact hK _ _ rfl rfl (World.grownBy.refl _ none)
      -- op 13 (slot 27): call
      refine MonoR.step (Pv.eq (.int .u64 (addI (mulI o x q) y q))) [(3, 17), (11, 25), (12, 26)] (by kernel_rfl) (fun w' hw' => ?_) ?_
      · rintro _ rfl
        rintro _ rfl
        rintro _ rfl
        refine ask_do rfl fun K hK => ?_
        go_simp
        refine (add_gr (mulI o x q) y q w' (mulI_U64 _ _ _) HY.out).mono ?_
        rintro e w3 ⟨rfl, hg⟩
        exact hK _ _ rfl rfl hg
      -- op 14 (slot 7): assign
      refine MonoR.step (Pv.eq (.int .u64 (addI (mulI o x q) y q))) [(13, 27)] (by kernel_rfl) (fun w' hw' => ?_) ?_
      · rintro _ rfl
        refine ask_do rfl fun K hK => ?_
        go_simp
        exact hK _ _ rfl rfl (World.grownBy.refl _ none)
      intro w3 hw3
      iterate 14 (intro _ _)
      rintro _ rfl
      have HE : Hid (w.grownBy w3 none ∧ U64 (addI (mulI o x q) y q) ∧ addI (mulI o x q) y q = evalGo q x (l.reverse.take (j + 1)) 0) := Lib.hid ⟨HGd.out.trans hw3, addI_U64 _ _ _, HSN.out⟩
      clear hw3 e4 e5
      refine wpList_nil ?_
      simp only [Act.put, List.setIfInBounds_toArray, List.set_cons_zero, List.set_cons_succ]
      go_wp2_with fail
      go_roundg m
      case measure => omega
      case rel => exact ⟨j + 1, _, by omega, by go_num, rfl, HE⟩
set_option maxHeartbeats 400000 in
theorem wide_any (v : Value) (l : List (List Int)) (X : Nat → Prop) (w : World) (h : Sl (encS encU) X w v l) (hb2 : ∀ c ∈ l, c.length ≤ 100000) :
    Calls Tryz.prog 117 #[v] w fun e w' => e = .returned (.int .i64 (wideI l : Nat)) ∧ w' = w := by
  have H := Lib.hid h
  have HB2 := Lib.hid hb2
  obtain ⟨A, c, rfl, hc1, hc2⟩ := h.form
  have HN0 : Hid (0 = wideI (l.take 0)) := Lib.hid rfl
  clear h hb2
  go_enter Tryz.func117, Tryz.ntmps117
  go_wp2_with fail
  go_loopg [3, 8] l.length (fun g s3 s8 wx => ∃ j n : Nat, j + g = l.length ∧ s8 = .int .i64 j ∧ s3 = .int .i64 n ∧ Hid (n = wideI (l.take j)) ∧ Hid (wx = w))
  case atStart => exact ⟨0, 0, by omega, rfl, rfl, HN0, Lib.hid rfl⟩
  case round =>
    obtain ⟨j, n, hj, rfl, rfl, HN, HX⟩ := hrel
    obtain rfl : wr = w := HX.out
    cases gk with
    | zero =>
      obtain rfl : j = l.length := by omega
      have HNW : Hid (n = wideI l) := Lib.hid (by have := HN.out; rwa [List.take_length] at this)
      clear HX HN
      go_wp2
      go_ret
      exact ⟨ret_i64 (by rw [HNW.out]), rfl⟩
    | succ m =>
      have hjn : (j : Int) < (l.length : Int) := by omega
      have hjN : j < l.length := by omega
      obtain ⟨g, o, c', u, e, _, _, hcu, hsu⟩ := H.out.atS hjN
      injection e with e1 e2 e3
      subst e1 e3
      obtain ⟨A1, c1, e1, _, _⟩ := hsu.form
      subst e1
      have HSN : Hid (wideI (l.take (j + 1)) = max n l[j].length) := Lib.hid (by rw [wide_snoc l j hjN, HN.out])
      have hnb : n ≤ 100000 := by rw [HN.out]; exact wide_le _ _ (fun c hc => HB2.out c (List.mem_of_mem_take hc))
      have hlb : l[j].length ≤ 100000 := HB2.out _ (List.getElem_mem hjN)
      clear hsu e2 HN
      generalize l[j].length = n1 at *
      go_wp2_with fail
      all_goals
        go_roundg m
        case measure => omega
        case rel => exact ⟨j + 1, max n n1, by omega, by go_num, by congr 1; omega, Lib.hid HSN.out.symm, Lib.hid rfl⟩
end Go.Proofs.YtnjkelojkoeihaaGreatDoor

namespace Go.Proofs.YtnjkelojkoeihaaGreatDoor
open Go Go.RowKit Go.Shelf

attribute [local go_sem] Oper.semAt_some
/-- The j-th numbers of all lists; 0 where there is none. -/
def colZ (f : List (List Int)) (j : Nat) : List Int := f.map fun c => c[j]?.getD 0
theorem colZ_snoc (l : List (List Int)) (i j : Nat) (h : i < l.length) : colZ (l.take (i + 1)) j = colZ (l.take i) j ++ [l[i][j]?.getD 0] := map_take_snoc' _ l i h
theorem colZ_length (f : List (List Int)) (j : Nat) : (colZ f j).length = f.length := by simp [colZ]
set_option maxHeartbeats 400000 in
theorem reads_one (A : Option Addr) (m c : Nat) (w : World) :
    Calls Tryz.prog 131 #[.slice A m c] w fun e w' => e = .returned (.func (.func 136) #[] #[.pointer (some ⟨w.heap.size, 0, none⟩)]) ∧ w' = w.alloc (.cells #[.slice A m c] 34) := by
  go_enter Tryz.func131, Tryz.ntmps131
  go_wp2
  go_ret
  exact ⟨rfl, rfl⟩
set_option maxHeartbeats 400000 in
theorem readsAt_any (B : Nat) (v : Value) (f : List (List Int)) (i j : Nat) (X : Nat → Prop) (w : World) (hb : Boxed w B 34 v) (h : Sl (encS encU) X w v f) (hi : i < f.length) (hj : (j : Int) ≤ 9223372036854775807) :
    Calls Tryz.prog 136 #[.int .i64 i, .int .i64 j, .pointer (some ⟨B, 0, none⟩)] w fun e w' => e = .returned (.int .u64 (f[i][j]?.getD 0)) ∧ w' = w := by
  have hc := hb.cell
  obtain ⟨g, o, c', u, e, _, _, hcu, hsu⟩ := h.atS hi
  subst e
  have hi0 : (0 : Int) ≤ (i : Int) := by omega
  have hj0 : (0 : Int) ≤ (j : Int) := by omega
  have hil : (i : Int) < (f.length : Int) := by omega
  obtain ⟨A1, c1, rfl, _, _⟩ := hsu.form
  by_cases hl : j < f[i].length
  · obtain ⟨g1, o1, c2, e, _, _, hcv, _⟩ := hsu.atU hl
    injection e with e1 e2 e3
    subst e1 e3
    have hli : (j : Int) < (f[i].length : Int) := by omega
    rw [show f[i][j]?.getD 0 = f[i][j] by rw [List.getElem?_eq_getElem hl]; rfl]
    generalize f[i][j] = y at *
    clear hsu hb h e2
    generalize f[i].length = m at *
    go_enter Tryz.func136, Tryz.ntmps136
    go_wp2
    go_ret
    exact ⟨rfl, rfl⟩
  · have hli : ¬ (j : Int) < (f[i].length : Int) := by omega
    have hli2 : (f[i].length : Int) ≤ (j : Int) := by omega
    rw [show f[i][j]?.getD 0 = 0 by rw [List.getElem?_eq_none (by omega)]; rfl]
    clear hsu hb h
    generalize f[i].length = m at *
    go_enter Tryz.func136, Tryz.ntmps136
    go_wp2
    go_ret
    exact ⟨rfl, rfl⟩
/-- What columns tells: a function that has f, and how f is read, in boxes. -/
def ColsOut (A : Option Addr) (m c : Nat) (w : World) (e : Ending) (w' : World) : Prop :=
  e = .returned (.func (.func 132) #[] #[.pointer (some ⟨w.heap.size, 0, none⟩), .pointer (some ⟨w.heap.size + 1 + 1, 0, none⟩)]) ∧ Boxed w' w.heap.size 34 (.slice A m c) ∧ Boxed w' (w.heap.size + 1) 34 (.slice A m c) ∧
  Boxed w' (w.heap.size + 1 + 1) 166 (.func (.func 136) #[] #[.pointer (some ⟨w.heap.size + 1, 0, none⟩)]) ∧ w.grownBy w' none ∧ w'.heap.size = w.heap.size + 1 + 1 + 1
set_option maxHeartbeats 400000 in
theorem columns_any (A : Option Addr) (m c : Nat) (w : World) :
    Calls Tryz.prog 118 #[.slice A m c] w (ColsOut A m c w) := by
  have e1 : (w.alloc (.cells #[.slice A m c] 34)).heap.size = w.heap.size + 1 := by simp
  have e2 : ((w.alloc (.cells #[.slice A m c] 34)).alloc (.cells #[.slice A m c] 34)).heap.size = w.heap.size + 1 + 1 := by simp
  have b3 := Boxed.new ((w.alloc (.cells #[.slice A m c] 34)).alloc (.cells #[.slice A m c] 34)) 166 .nilFunc
  rw [e2] at b3
  have hc3 := b3.cell
  have hf3 := b3.frozen
  have hrun : (store ⟨w.heap.size + 1 + 1, 0, none⟩ (.func (.func 136) #[] #[.pointer (some ⟨w.heap.size + 1, 0, none⟩)])).run Tryz.prog (((w.alloc (.cells #[.slice A m c] 34)).alloc (.cells #[.slice A m c] 34)).alloc (.cells #[.nilFunc] 166)) = .ok () ((((w.alloc (.cells #[.slice A m c] 34)).alloc (.cells #[.slice A m c] 34)).alloc (.cells #[.nilFunc] 166)).setCell ⟨w.heap.size + 1 + 1, 0, none⟩ (.func (.func 136) #[] #[.pointer (some ⟨w.heap.size + 1, 0, none⟩)])) := by
    simp only [store, Sem.run, hc3, hf3]
    rfl
  have HF : Hid (ColsOut A m c w (.returned (.func (.func 132) #[] #[.pointer (some ⟨w.heap.size, 0, none⟩), .pointer (some ⟨w.heap.size + 1 + 1, 0, none⟩)])) (((w.alloc (.cells #[.slice A m c] 34)).alloc (.cells #[.slice A m c] 34)).alloc (.cells #[.func (.func 136) #[] #[.pointer (some ⟨w.heap.size + 1, 0, none⟩)]] 166))) := Lib.hid (by
    have b1 := ((Boxed.new w 34 (.slice A m c)).alloc (.cells #[.slice A m c] 34)).alloc (.cells #[.func (.func 136) #[] #[.pointer (some ⟨w.heap.size + 1, 0, none⟩)]] 166)
    have b2 := (Boxed.new (w.alloc (.cells #[.slice A m c] 34)) 34 (.slice A m c)).alloc (.cells #[.func (.func 136) #[] #[.pointer (some ⟨w.heap.size + 1, 0, none⟩)]] 166)
    have b4 := Boxed.new ((w.alloc (.cells #[.slice A m c] 34)).alloc (.cells #[.slice A m c] 34)) 166 (.func (.func 136) #[] #[.pointer (some ⟨w.heap.size + 1, 0, none⟩)])
    rw [e1] at b2
    rw [e2] at b4
    exact ⟨rfl, b1, b2, b4, ((World.grownBy_alloc w _ none).trans (World.grownBy_alloc _ _ none)).trans (World.grownBy_alloc _ _ none), by simp⟩)
  clear b3 e1 e2
  go_enter Tryz.func118, Tryz.ntmps118
  go_wp2_with fail
  refine (reads_one A m c _).mono ?_
  rintro e w1 ⟨rfl, rfl⟩
  go_wp2
  go_ret
  exact HF.out
/-- A column as it is handed over: its place, the slice, the numbers. -/
structure Colx where
  j : Nat
  v : Value
  c : List Int
/-- What a round of the iterator keeps: what lay below n₀, and three boxes. -/
def Kp3 (n₀ B1 B2 B3 : Nat) (A B : World) : Prop := Below n₀ A B ∧ B.heap[B1]? = A.heap[B1]? ∧ B.heap[B2]? = A.heap[B2]? ∧ B.heap[B3]? = A.heap[B3]?
theorem Kp3.refl (n₀ B1 B2 B3 : Nat) (A : World) : Kp3 n₀ B1 B2 B3 A A := ⟨Below.refl _ _, rfl, rfl, rfl⟩
theorem Kp3.trans {n₀ B1 B2 B3 : Nat} {A B C : World} (h : Kp3 n₀ B1 B2 B3 A B) (k : Kp3 n₀ B1 B2 B3 B C) : Kp3 n₀ B1 B2 B3 A C := ⟨h.1.trans k.1, k.2.1.trans h.2.1, k.2.2.1.trans h.2.2.1, k.2.2.2.trans h.2.2.2⟩
theorem Kp3.grown {n₀ B1 B2 B3 : Nat} {A B : World} (hg : A.grownBy B none) (hn : n₀ ≤ A.heap.size) (h1 : B1 < A.heap.size) (h2 : B2 < A.heap.size) (h3 : B3 < A.heap.size) : Kp3 n₀ B1 B2 B3 A B :=
  ⟨(below_grown hg).mono hn, hg.block _ h1 (by simp), hg.block _ h2 (by simp), hg.block _ h3 (by simp)⟩
theorem Kp3.b {n₀ B1 B2 B3 : Nat} {w : World} (hn : n₀ ≤ w.heap.size) (h1 : B1 < w.heap.size) (h2 : B2 < w.heap.size) (h3 : B3 < w.heap.size) (W : World) (l : Nat) (o o' : Obj) (hl : w.heap.size ≤ l) (h : W.heap[l]? = some o) (k1 : o.isCells = false) (k2 : o.isWalk = false) : Kp3 n₀ B1 B2 B3 W (W.putObj l o') := by
  have hlt := (Array.getElem?_eq_some_iff.1 h).1
  have hg := grownBy_putObj' W l o'
  exact ⟨belowK_b hn W l o o' hl h k1 k2, hg.block _ (by omega) (fun e => by injection e with e; omega), hg.block _ (by omega) (fun e => by injection e with e; omega), hg.block _ (by omega) (fun e => by injection e with e; omega)⟩
def colFx (n₁ n : Nat) (x : Colx) (W : World) : Prop := Sl encU (fun g => n₁ ≤ g) W x.v x.c ∧ x.j < n
def colsOf (f : List (List Int)) : List (Nat × List Int) := (List.range (wideI f)).map fun j => (j, colZ f j)
set_option maxRecDepth 100000 in
set_option maxHeartbeats 2000000 in
theorem columns_goes (n : Nat) (hn : 1 ≤ n) (B1 B2 B3 : Nat) (v : Value) (f : List (List Int)) (X : Nat → Prop) (w₀ w1 : World) (h01 : Below w₀.heap.size w₀ w1) (hb1 : Boxed w1 B1 34 v) (hb2 : Boxed w1 B2 34 v) (hb3 : Boxed w1 B3 166 (.func (.func 136) #[] #[.pointer (some ⟨B2, 0, none⟩)])) (hf : Sl (encS encU) X w₀ v f) (hl1 : f.length ≤ 100000) (hl2 : ∀ c ∈ f, c.length ≤ 100000) :
    SeqGoes Fence.wide n Tryz.prog 132 #[.pointer (some ⟨B1, 0, none⟩), .pointer (some ⟨B3, 0, none⟩)] (fun x : Colx => #[.int .i64 x.j, x.v]) (colFx w1.heap.size (wideI f)) (Kp3 w₀.heap.size B1 B2 B3) (fun xs => xs.map (fun x => (x.j, x.c)) = colsOf f) (wideI f) w1 := by
  intro l J W hW hJ hY h0
  refine callsIn_of_wp Tryz.func132 rfl trivial ?_ rfl
  simp only [Tryz.ntmps132, List.size_toArray, List.length_cons, List.length_nil, Nat.reduceAdd, Nat.reduceSub, Array.replicate_succ, Array.replicate_zero, List.push_toArray, List.append_toArray, List.nil_append, List.cons_append]
  have HB1 : Hid (Boxed W B1 34 v) := Lib.hid ((hW.5 B1 hb1.lt).trans hb1)
  have HB2 : Hid (Boxed W B2 34 v) := Lib.hid ((hW.5 B2 hb2.lt).trans hb2)
  have HB3 : Hid (Boxed W B3 166 (.func (.func 136) #[] #[.pointer (some ⟨B2, 0, none⟩)])) := Lib.hid ((hW.5 B3 hb3.lt).trans hb3)
  have HG0 : Hid (w₀.grownBy W none) := Lib.hid (grown_of_below (h01.trans (hW.mono h01.size)))
  have HWS : Hid (w1.heap.size ≤ W.heap.size) := Lib.hid hW.size
  have HF := Lib.hid hf
  have HLC := Lib.hid hl2
  have HWB : Hid (wideI f ≤ 100000) := Lib.hid (wide_le f _ hl2)
  obtain ⟨A1, c1, rfl, _, _⟩ := hf.form
  have HLB1 := Lib.hid hb1.lt
  have HLB2 := Lib.hid hb2.lt
  have HLB3 := Lib.hid hb3.lt
  have ca := HB1.out.cell
  have HWI := Lib.hid (wide_any _ f X W (HF.out.kept HG0.out) hl2)
  have HH0 := Lib.hid h0
  have HL : Hid ((colsOf f).length = wideI f) := Lib.hid (by simp [colsOf])
  clear hb1 hb2 hb3 hf h0 hl2
  obtain ⟨N, hN⟩ : ∃ N, N = wideI f := ⟨_, rfl⟩
  rw [← hN] at HWI HWB HL hY
  have HN := Lib.hid hN
  have HN9 : N ≤ 100000 := HWB.out
  clear hN
  gi_wp2_with (refine ⟨trivial, ?_⟩; refine (callsIn_wide.2 HWI.out).mono ?_; rintro e w' ⟨rfl, hw'⟩; obtain rfl : W = w' := hw'.symm)
  gi_loopw [9] (fun s9 wr => ∃ (k : Nat) (pre : List Colx), k ≤ N ∧ s9 = .int .i64 k ∧ Hid (pre.map (fun x => (x.j, x.c)) = (colsOf f).take k ∧ J pre wr ∧ Kp3 w₀.heap.size B1 B2 B3 W wr)) (fun s9 _ => N - (intOf s9).toNat)
  case atStart => exact ⟨0, [], by omega, rfl, Lib.hid ⟨rfl, HH0.out, Kp3.refl _ _ _ _ _⟩⟩
  case round =>
    rename World => wr
    obtain ⟨k, pre, hk, rfl, HX⟩ := hrel
    by_cases hlt : k < N
    · have hki : (k : Int) < (N : Int) := by omega
      have hkb : (k : Int) ≤ 9223372036854775807 := by omega
      have hpl : pre.length = k := by have := congrArg List.length HX.out.1; simpa [HL.out, Nat.min_eq_left hk] using this
      have HBr1 : Hid (Boxed wr B1 34 (.slice A1 f.length c1)) := Lib.hid (HX.out.2.2.2.1.trans HB1.out)
      have HBr2 : Hid (Boxed wr B2 34 (.slice A1 f.length c1)) := Lib.hid (HX.out.2.2.2.2.1.trans HB2.out)
      have HBr3 : Hid (Boxed wr B3 166 (.func (.func 136) #[] #[.pointer (some ⟨B2, 0, none⟩)])) := Lib.hid (HX.out.2.2.2.2.2.trans HB3.out)
      have HGW : Hid (w₀.grownBy wr none) := Lib.hid (grown_of_below ((below_grown HG0.out).trans HX.out.2.2.1))
      have HWR : Hid (W.heap.size ≤ wr.heap.size) := Lib.hid HX.out.2.2.1.size
      have hca := HBr1.out.cell
      clear ca
      have HI0 : Hid (Acc encU wr.heap.size 22 (fun g => wr.heap.size ≤ g) wr (.slice none 0 0) (colZ (f.take 0) k) ∧ wr.grownBy wr none) := Lib.hid ⟨Acc.nil _ _ _ _ _, World.grownBy.refl _ _⟩
      gi_wp2
      refine wpIn_wide.2 ?_
      go_loopg [5, 14] f.length (fun g s5 s14 wx => ∃ i : Nat, i + g = f.length ∧ s14 = .int .i64 i ∧ Hid (Acc encU wr.heap.size 22 (fun g => wr.heap.size ≤ g) wx s5 (colZ (f.take i) k) ∧ wr.grownBy wx none))
      case atStart => exact ⟨0, by omega, rfl, HI0⟩
      case round =>
        rename World => wi
        obtain ⟨i, hi, rfl, HY⟩ := hrel
        cases gk with
        | zero =>
          obtain rfl : i = f.length := by omega
          have HJi : Hid (J pre wi) := Lib.hid (hJ _ wr wi none HX.out.2.1 HY.out.2 (by simp))
          have HC : Hid (Sl encU (fun g => w1.heap.size ≤ g) wi u5 (colZ f k)) := Lib.hid (by have := HY.out.1.sl; rw [List.take_length] at this; exact this.more (fun g _ hg => by have := HWS.out; have := HWR.out; omega))
          obtain ⟨fn, tmps, assign, body, hy, hR⟩ := hY pre ⟨k, u5, colZ f k⟩ wi HJi.out ⟨HC.out, hlt⟩ (by rw [hpl]; exact hlt)
          dsimp only at hy
          have HR := Lib.hid hR
          have HPN : Hid ((pre ++ [(⟨k, u5, colZ f k⟩ : Colx)]).map (fun x => (x.j, x.c)) = (colsOf f).take (k + 1)) := Lib.hid (by
            have hkz : k < (colsOf f).length := by rw [HL.out]; exact hlt
            rw [List.map_append, HX.out.1, List.take_succ_eq_append_getElem hkz]
            simp [colsOf])
          have HKr : Hid (Kp3 w₀.heap.size B1 B2 B3 W wi) := Lib.hid (HX.out.2.2.trans (Kp3.grown HY.out.2 (Nat.le_trans HGW.out.size (Nat.le_refl _)) HBr1.out.lt HBr2.out.lt HBr3.out.lt))
          clear hR HI0 HY
          go_wp2_with fail
          gi_wp2_with ((with_reducible refine HR.out.mono ?_); rintro e W' ⟨rfl, hJ2, hK2⟩)
          exact ⟨⟨k + 1, _, by omega, by go_num, Lib.hid ⟨HPN.out, hJ2, HKr.out.trans hK2⟩⟩, by simp [intOf]; omega⟩
        | succ m =>
          have hin : (i : Int) < (f.length : Int) := by omega
          have hiN : i < f.length := by omega
          have HSf := Lib.hid ((HF.out.kept HGW.out).kept HY.out.2)
          have hB2 := HBr2.out.kept HY.out.2 (by simp)
          have hB3 := HBr3.out.kept HY.out.2 (by simp)
          have hc3 := hB3.cell
          have HCT := Lib.hid (readsAt_any B2 _ f i k X wi hB2 HSf.out hiN hkb)
          have HSN := Lib.hid (colZ_snoc f i k hiN)
          have HUX : Hid (U64 (f[i][k]?.getD 0)) := Lib.hid (by
            obtain ⟨_, _, _, u, _, _, _, _, hsu⟩ := HSf.out.atS hiN
            exact getD_U64 k hsu)
          have HA := Lib.hid HY.out.1
          have HGY := Lib.hid HY.out.2
          have HLB : Hid (((colZ (f.take i) k).length + 1) * 8 ≤ 140737488355328) := Lib.hid (by rw [colZ_length]; simp; omega)
          clear hB2 hB3 HY HI0 HSf
          generalize f[i][k]?.getD 0 = y at *
          go_wp2_with fail
          refine HCT.out.mono ?_
          rintro e w' ⟨rfl, rfl⟩
          go_wp2_with (at_builtin; refine wpList_pushG rfl (.tmp 17) (.tmp 22) rfl (E := encU) el_u64 HGY.out HA.out (fun _ h => h) ⟨rfl, HUX.out⟩ HLB.out rfl rfl ?_)
          intro v2 w2 hacc2 hg2 hgo
          have HFIN : Hid (Acc encU wr.heap.size 22 (fun g => wr.heap.size ≤ g) w2 v2 (colZ (f.take (i + 1)) k) ∧ wr.grownBy w2 none) := Lib.hid ⟨by rw [HSN.out]; exact hacc2, hg2⟩
          clear hacc2 hg2 hgo hc3
          go_wp2_with fail
          go_roundg m
          case measure => omega
          case rel => exact ⟨i + 1, by omega, by go_num, HFIN⟩
    · obtain rfl : k = N := by omega
      gi_wp2
      go_end0
      exact ⟨⟨_, rfl⟩, pre, by rw [HX.out.1, ← HL.out, List.take_length], HX.out.2.1⟩
end Go.Proofs.YtnjkelojkoeihaaGreatDoor

namespace Go.Proofs.YtnjkelojkoeihaaGreatDoor
open Go Go.RowKit Go.Shelf

attribute [local go_sem] Oper.semAt_some
/-- The row, and the column, at a place. -/
def rowI (q : Int) (f : List (List Int)) (x : Int) : List Int := (List.range (wideI f)).map fun j => evalI q (colZ f j) x
def colV (q : Int) (f : List (List Int)) (y : Int) : List Int := f.map fun c => evalI q c y
/-- What the array holds behind some rounds. -/
def outArr (q x : Int) (n : Nat) (xs : List (Nat × List Int)) : List Int := xs.foldl (fun h e => h.set e.1 (evalI q e.2 x)) (List.replicate n 0)
theorem foldl_set_length (q x : Int) : ∀ (xs : List (Nat × List Int)) (h : List Int), (xs.foldl (fun h e => h.set e.1 (evalI q e.2 x)) h).length = h.length
  | [], _ => rfl
  | _ :: xs, _ => (foldl_set_length q x xs _).trans (List.length_set ..)
theorem outArr_length (q x : Int) (n : Nat) (xs : List (Nat × List Int)) : (outArr q x n xs).length = n := by
  unfold outArr
  rw [foldl_set_length]
  simp
theorem outArr_snoc (q x : Int) (n : Nat) (xs : List (Nat × List Int)) (e : Nat × List Int) : outArr q x n (xs ++ [e]) = (outArr q x n xs).set e.1 (evalI q e.2 x) := by simp [outArr]
theorem outArr_upto (q x : Int) (f : List (List Int)) (n : Nat) : ∀ k, k ≤ n → ∀ i (hi : i < (outArr q x n ((List.range k).map fun j => (j, colZ f j))).length), (outArr q x n ((List.range k).map fun j => (j, colZ f j)))[i] = if i < k then evalI q (colZ f i) x else 0
  | 0, _, i, hi => by simp [outArr]
  | k + 1, hk, i, hi => by
    have e : (List.range (k + 1)).map (fun j => (j, colZ f j)) = (List.range k).map (fun j => (j, colZ f j)) ++ [(k, colZ f k)] := by simp [List.range_succ]
    simp only [e, outArr_snoc]
    rw [List.getElem_set]
    split
    · rename_i h
      subst h
      simp
    · rename_i h
      rw [outArr_upto q x f n k (by omega) i]
      by_cases h1 : i < k
      · simp [h1, show i < k + 1 by omega]
      · simp [h1, show ¬ i < k + 1 by omega]
theorem outArr_all (q x : Int) (f : List (List Int)) : outArr q x (wideI f) (colsOf f) = rowI q f x := by
  refine List.ext_getElem (by rw [outArr_length]; simp [rowI]) fun i h1 h2 => ?_
  have h3 : i < wideI f := by rwa [outArr_length] at h1
  have := outArr_upto q x f (wideI f) (wideI f) (Nat.le_refl _) i h1
  rw [show (outArr q x (wideI f) (colsOf f))[i] = _ from this]
  simp [h3, rowI]
set_option maxRecDepth 100000 in
set_option maxHeartbeats 2000000 in
theorem row_in (n0 : Nat) (hn0 : 6 ≤ n0) (v : Value) (f : List (List Int)) (x q : Int) (X : Nat → Prop) (w : World) (hf : Sl (encS encU) X w v f) (hx : U64 x) (hl1 : f.length ≤ 100000) (hl2 : ∀ c ∈ f, c.length ≤ 100000) :
    CallsIn Fence.wide n0 Tryz.prog 92 #[v, .int .u64 x, .int .u64 q] w (Gives encU (fun g => w.heap.size ≤ g) w (rowI q f x)) := by
  have h1 : 1 ≤ n0 := by omega
  have HF := Lib.hid hf
  have HX := Lib.hid hx
  have HWB : Hid (wideI f ≤ 100000) := Lib.hid (wide_le f _ hl2)
  obtain ⟨A1, c1, rfl, _, _⟩ := hf.form
  have HWI := Lib.hid (fun w' (hw : w.grownBy w' none) => wide_any _ f X w' (hf.kept hw) hl2)
  clear hf hx
  obtain ⟨n, hn⟩ : ∃ n, n = wideI f := ⟨_, rfl⟩
  have HN := Lib.hid hn
  rw [← hn] at HWI HWB
  have hn9 : n ≤ 100000 := HWB.out
  have hmk := run_make_row' (P := Tryz.prog) 25 22 (.int .u64 0) 8 Tryz.underlying25 info_u64 rfl .i64 .i64 n (by omega) (by omega)
  have HG2 : Hid (w.grownBy ((w.alloc (.cells #[.int .u64 x] 22)).alloc (.cells #[.int .u64 q] 22)) none) := Lib.hid ((World.grownBy_alloc w _ none).trans (World.grownBy_alloc _ _ none))
  clear hn
  refine callsIn_of_wp_marks Tryz.func92 rfl trivial ?_ rfl
  simp only [Tryz.ntmps92, List.size_toArray, List.length_cons, List.length_nil, Nat.reduceAdd, Nat.reduceSub, Array.replicate_succ, Array.replicate_zero, List.push_toArray, List.append_toArray, List.nil_append, List.cons_append]
  gi_wp2_with (refine ⟨trivial, ?_⟩; refine (callsIn_wide.2 (HWI.out _ HG2.out)).mono ?_; rintro e w' ⟨rfl, hw'⟩; subst hw')
  have HBS : Hid (Bk ((((w.alloc (.cells #[.int .u64 x] 22)).alloc (.cells #[.int .u64 q] 22)).alloc (.cells (madeCells #[.int .u64 0] n) 22)).alloc (.cells #[.slice (some ⟨w.heap.size + 1 + 1, 0, none⟩) n n] 25)) w.heap.size 22 #[.int .u64 x] ∧ Bk ((((w.alloc (.cells #[.int .u64 x] 22)).alloc (.cells #[.int .u64 q] 22)).alloc (.cells (madeCells #[.int .u64 0] n) 22)).alloc (.cells #[.slice (some ⟨w.heap.size + 1 + 1, 0, none⟩) n n] 25)) (w.heap.size + 1) 22 #[.int .u64 q] ∧ Bk ((((w.alloc (.cells #[.int .u64 x] 22)).alloc (.cells #[.int .u64 q] 22)).alloc (.cells (madeCells #[.int .u64 0] n) 22)).alloc (.cells #[.slice (some ⟨w.heap.size + 1 + 1, 0, none⟩) n n] 25)) (w.heap.size + 1 + 1) 22 (nums (List.replicate n 0)).toArray ∧ Boxed ((((w.alloc (.cells #[.int .u64 x] 22)).alloc (.cells #[.int .u64 q] 22)).alloc (.cells (madeCells #[.int .u64 0] n) 22)).alloc (.cells #[.slice (some ⟨w.heap.size + 1 + 1, 0, none⟩) n n] 25)) (w.heap.size + 1 + 1 + 1) 25 (.slice (some ⟨w.heap.size + 1 + 1, 0, none⟩) n n) ∧ w.grownBy ((((w.alloc (.cells #[.int .u64 x] 22)).alloc (.cells #[.int .u64 q] 22)).alloc (.cells (madeCells #[.int .u64 0] n) 22)).alloc (.cells #[.slice (some ⟨w.heap.size + 1 + 1, 0, none⟩) n n] 25)) none ∧ ((((w.alloc (.cells #[.int .u64 x] 22)).alloc (.cells #[.int .u64 q] 22)).alloc (.cells (madeCells #[.int .u64 0] n) 22)).alloc (.cells #[.slice (some ⟨w.heap.size + 1 + 1, 0, none⟩) n n] 25)).heap.size = w.heap.size + 1 + 1 + 1 + 1) := Lib.hid (by
    have e1 : (w.alloc (.cells #[.int .u64 x] 22)).heap.size = w.heap.size + 1 := by simp
    have e2 : ((w.alloc (.cells #[.int .u64 x] 22)).alloc (.cells #[.int .u64 q] 22)).heap.size = w.heap.size + 1 + 1 := by simp
    have e3 : (((w.alloc (.cells #[.int .u64 x] 22)).alloc (.cells #[.int .u64 q] 22)).alloc (.cells (madeCells #[.int .u64 0] n) 22)).heap.size = w.heap.size + 1 + 1 + 1 := by simp
    have b1 := (Bk.new (w.alloc (.cells #[.int .u64 x] 22)) 22 #[.int .u64 q]).alloc (.cells (madeCells #[.int .u64 0] n) 22) |>.alloc (.cells #[.slice (some ⟨w.heap.size + 1 + 1, 0, none⟩) n n] 25)
    have b2 := (Bk.new ((w.alloc (.cells #[.int .u64 x] 22)).alloc (.cells #[.int .u64 q] 22)) 22 (madeCells #[.int .u64 0] n)).alloc (.cells #[.slice (some ⟨w.heap.size + 1 + 1, 0, none⟩) n n] 25)
    have b3 := Boxed.new (((w.alloc (.cells #[.int .u64 x] 22)).alloc (.cells #[.int .u64 q] 22)).alloc (.cells (madeCells #[.int .u64 0] n) 22)) 25 (.slice (some ⟨w.heap.size + 1 + 1, 0, none⟩) n n)
    rw [e1] at b1
    rw [e2] at b2
    rw [e3] at b3
    exact ⟨(((Bk.new w 22 #[.int .u64 x]).alloc _).alloc _).alloc _, b1, b2.of_eq (Array.toList_inj.1 (by rw [toList_madeCells_one]; simp [nums])), b3, (HG2.out.trans (World.grownBy_alloc _ _ none)).trans (World.grownBy_alloc _ _ none), by simp⟩)
  have HCO := Lib.hid (columns_any A1 f.length c1 ((((w.alloc (.cells #[.int .u64 x] 22)).alloc (.cells #[.int .u64 q] 22)).alloc (.cells (madeCells #[.int .u64 0] n) 22)).alloc (.cells #[.slice (some ⟨w.heap.size + 1 + 1, 0, none⟩) n n] 25)))
  obtain ⟨Wm, hWm⟩ : ∃ Wm, ((((w.alloc (.cells #[.int .u64 x] 22)).alloc (.cells #[.int .u64 q] 22)).alloc (.cells (madeCells #[.int .u64 0] n) 22)).alloc (.cells #[.slice (some ⟨w.heap.size + 1 + 1, 0, none⟩) n n] 25)) = Wm := ⟨_, rfl⟩
  rw [hWm] at HBS HCO ⊢
  clear hWm hmk HWI HG2
  refine ⟨trivial, ?_⟩
  refine (callsIn_wide.2 HCO.out).mono ?_
  rintro e W0 ⟨rfl, b1, b2, b3, hg, hsz⟩
  clear HCO
  obtain ⟨k1, k2, k3, k4, k5, k6⟩ := HBS.out
  have bx := k1.grown hg (by simp)
  have bq := k2.grown hg (by simp)
  have bo := k3.grown hg (by simp)
  have bs := k4.kept hg (by simp)
  have hB0 : Below w.heap.size w W0 := below_grown (k5.trans hg)
  rw [k6] at b1 b2 b3 hsz ⊢
  clear k1 k2 k3 k4 k5 k6 hg HBS
  dsimp only
  gi_wp2
  refine wpIn_rangeFunc_goes rfl h1 (gf := 132) (lb := #[.pointer (some ⟨w.heap.size + 1 + 1 + 1 + 1, 0, none⟩), .pointer (some ⟨w.heap.size + 1 + 1 + 1 + 1 + 1 + 1, 0, none⟩)]) rfl trivial (enters_of Tryz.func132 (by kernel_rfl) rfl)
    (columns_goes (n0 - 1) (by omega) _ _ _ _ f X w W0 hB0 b1 b2 b3 HF.out hl1 hl2) Kp3.trans (Kp3.b (by omega) (by omega) (by omega) (by omega)) (Below.refl _ _) (fun _ => rfl)
    (fun pre W => Bk W w.heap.size 22 #[.int .u64 x] ∧ Bk W (w.heap.size + 1) 22 #[.int .u64 q] ∧ Bk W (w.heap.size + 1 + 1) 22 (nums (outArr q x n (pre.map fun e : Colx => (e.j, e.c)))).toArray ∧ Boxed W (w.heap.size + 1 + 1 + 1) 25 (.slice (some ⟨w.heap.size + 1 + 1, 0, none⟩) n n) ∧ Below w.heap.size w W ∧ W0.heap.size ≤ W.heap.size)
    (fun pre X' Y row hs hg hrow => by
      obtain ⟨s1, s2, s3, s4, s5, s6⟩ := hs
      have hr' := fun r e => (hrow r e).2
      have l3 := s3.lt
      have n3 : some (w.heap.size + 1 + 1) ≠ row := fun e => by
        obtain ⟨o, ho, hc⟩ := hr' _ e.symm
        rw [show X'.heap[w.heap.size + 1 + 1]? = _ from s3] at ho
        cases ho
        cases hc
      exact ⟨s1.grown hg (cell_ne (s1.cell 0) hr'), s2.grown hg (cell_ne (s2.cell 0) hr'), s3.grown hg n3, s4.kept hg (boxNe s4 hr'), s5.grown hg s5.size (fun k e => by have := (hrow k e).1; omega), Nat.le_trans s6 hg.size⟩)
    ⟨bx, bq, by simpa [outArr] using bo, bs, hB0, Nat.le_refl _⟩
    (fun e a' W => (Sl encU (fun g => W0.heap.size ≤ g) W e.v e.c ∧ e.j < n) ∧ a' = { tmps := #[.slice A1 f.length c1, .int .u64 x, .int .u64 q, undef, .pointer (some ⟨w.heap.size, 0, none⟩), .pointer (some ⟨w.heap.size + 1, 0, none⟩), .slice none 0 0, .pointer (some ⟨w.heap.size + 1 + 1 + 1, 0, none⟩), .int .i64 e.j, e.v, .slice A1 f.length c1, .int .i64 n, .slice (some ⟨w.heap.size + 1 + 1, 0, none⟩) n n, .slice A1 f.length c1, .func (.func 132) #[] #[.pointer (some ⟨w.heap.size + 1 + 1 + 1 + 1, 0, none⟩), .pointer (some ⟨w.heap.size + 1 + 1 + 1 + 1 + 1 + 1, 0, none⟩)], .int .i64 e.j, e.v, undef, undef, undef, undef, undef, undef, undef, undef], defers := [] })
    (fun e a' _ X' Y row hs hg hrow => ⟨⟨hs.1.1.keepc hg (fun r e => (hrow r e).2), hs.1.2⟩, hs.2⟩)
    ?assign ?body ?done
  case assign =>
    rintro l pre e W K hi hfx hK
    have hfx2 : e.j < n := by have := hfx.2; rwa [← HN.out] at this
    have hfx1 := hfx.1
    have hk2 := hK _ W (KeepsFrom.refl _ _) (Kp3.refl _ _ _ _ _) hi ⟨⟨hfx1, hfx2⟩, rfl⟩
    clear hK hi hfx
    gi_wp2
    exact hk2
  case body =>
    rintro l pre ⟨j, vc, lc⟩ a' W hl ⟨hbx, hbq, hbo, hbs, hbl, hws⟩ ⟨⟨hsl, hjn⟩, rfl⟩ hlt
    have hsl : Sl encU (fun g => W0.heap.size ≤ g) W vc lc := hsl
    have hjn : j < n := hjn
    obtain ⟨Ac, cc, rfl, _, _⟩ := hsl.form
    have hj0 : (0 : Int) ≤ (j : Int) := by omega
    have hjI : (j : Int) < (n : Int) := by omega
    have HBX : Hid (Boxed W.drew (w.heap.size + 1 + 1 + 1) 25 (.slice (some ⟨w.heap.size + 1 + 1, 0, none⟩) n n)) := Lib.hid hbs
    have HBx : Hid (Bk W.drew w.heap.size 22 #[.int .u64 x]) := Lib.hid (hbx.drewN 1)
    have HBq : Hid (Bk W.drew (w.heap.size + 1) 22 #[.int .u64 q]) := Lib.hid (hbq.drewN 1)
    have HBO : Hid (Bk W.drew (w.heap.size + 1 + 1) 22 (nums (outArr q x n (pre.map fun e : Colx => (e.j, e.c)))).toArray) := Lib.hid (hbo.drewN 1)
    have HEV : Hid (∀ w', W.drew.grownBy w' none → Calls Tryz.prog 59 #[.slice Ac lc.length cc, .int .u64 x, .int .u64 q] w' fun e w'' => e = .returned (.int .u64 (evalI q lc x)) ∧ w'.grownBy w'' none) := Lib.hid (fun w' hw => eval_any _ lc x q _ w' (hsl.kept ((grown_drewN' W 1).trans hw)) HX.out)
    have HBL := Lib.hid hbl
    have HLL : Hid ((outArr q x n (pre.map fun e : Colx => (e.j, e.c))).length = n) := Lib.hid (outArr_length _ _ _ _)
    have HSN : Hid (outArr q x n ((pre ++ [(⟨j, .slice Ac lc.length cc, lc⟩ : Colx)]).map fun e : Colx => (e.j, e.c)) = (outArr q x n (pre.map fun e : Colx => (e.j, e.c))).set j (evalI q lc x)) := Lib.hid (by rw [List.map_append]; exact outArr_snoc _ _ _ _ _)
    have HWL : Hid (w.heap.size + 1 + 1 + 1 + 1 + 1 + 1 + 1 = W0.heap.size ∧ W0.heap.size ≤ W.heap.size) := Lib.hid ⟨by rw [hsz], hws⟩
    have HWW : Hid (w.heap.size + 1 + 1 + 1 + 1 + 1 + 1 < W.heap.size) := Lib.hid (by omega)
    obtain ⟨H0, hH0⟩ : ∃ H0, H0 = outArr q x n (pre.map fun e : Colx => (e.j, e.c)) := ⟨_, rfl⟩
    rw [← hH0] at HBO HLL HSN
    obtain ⟨ev, hev⟩ : ∃ ev, ev = evalI q lc x := ⟨_, rfl⟩
    have HEVE := Lib.hid hev
    clear hbx hbq hbo hbs hbl hsl hlt hH0 hev
    dsimp only
    gi_wp2
    refine wpIn_round_any (l0 := l) (R := fun _ W5 => KeepsFrom W0.heap.size W W5 ∧ Kp3 w.heap.size (w.heap.size + 1 + 1 + 1 + 1) (w.heap.size + 1 + 1 + 1 + 1 + 1) (w.heap.size + 1 + 1 + 1 + 1 + 1 + 1) W W5 ∧ Bk W5 w.heap.size 22 #[.int .u64 x] ∧ Bk W5 (w.heap.size + 1) 22 #[.int .u64 q] ∧ Bk W5 (w.heap.size + 1 + 1) 22 (nums (outArr q x n ((pre ++ [(⟨j, .slice Ac lc.length cc, lc⟩ : Colx)]).map fun e : Colx => (e.j, e.c)))).toArray ∧ Boxed W5 (w.heap.size + 1 + 1 + 1) 25 (.slice (some ⟨w.heap.size + 1 + 1, 0, none⟩) n n) ∧ Below w.heap.size w W5 ∧ W0.heap.size ≤ W5.heap.size) (by kernel_rfl) (by kernel_rfl) (fun a w h => ⟨rfl, h⟩) ?_
    refine wpAny_monoR 7 (by kernel_rfl) ?_
    -- op 0 (slot 17): load
    refine MonoR.step (Pv.eq (.slice (some ⟨w.heap.size + 1 + 1, 0, none⟩) n n)) [] (by kernel_rfl) (fun w' hw' => ?_) ?_
    · refine ask_do rfl fun K hK => ?_
      have hb7 := (HBX.out.kept hw' (by simp)).cell
      have hb4 := (HBx.out.grown hw' (by simp)).cell 0
      have hb5 := (HBq.out.grown hw' (by simp)).cell 0
      simp at hb4 hb5
      go_simp
      exact hK _ _ rfl rfl (World.grownBy.refl _ none)
    -- op 1 (slot 18): move
    refine MonoR.step (Pv.eq (.int .i64 (j : Int))) [] (by kernel_rfl) (fun w' hw' => ?_) ?_
    · refine ask_do rfl fun K hK => ?_
      go_simp
      exact hK _ _ rfl rfl (World.grownBy.refl _ none)
    -- op 2 (slot 19): move
    refine MonoR.step (Pv.eq (.slice Ac lc.length cc)) [] (by kernel_rfl) (fun w' hw' => ?_) ?_
    · refine ask_do rfl fun K hK => ?_
      go_simp
      exact hK _ _ rfl rfl (World.grownBy.refl _ none)
    -- op 3 (slot 20): load
    refine MonoR.step (Pv.eq (.int .u64 x)) [] (by kernel_rfl) (fun w' hw' => ?_) ?_
    · refine ask_do rfl fun K hK => ?_
      have hb7 := (HBX.out.kept hw' (by simp)).cell
      have hb4 := (HBx.out.grown hw' (by simp)).cell 0
      have hb5 := (HBq.out.grown hw' (by simp)).cell 0
      simp at hb4 hb5
      go_simp
      exact hK _ _ rfl rfl (World.grownBy.refl _ none)
    -- op 4 (slot 21): load
    refine MonoR.step (Pv.eq (.int .u64 q)) [] (by kernel_rfl) (fun w' hw' => ?_) ?_
    · refine ask_do rfl fun K hK => ?_
      have hb7 := (HBX.out.kept hw' (by simp)).cell
      have hb4 := (HBx.out.grown hw' (by simp)).cell 0
      have hb5 := (HBq.out.grown hw' (by simp)).cell 0
      simp at hb4 hb5
      go_simp
      exact hK _ _ rfl rfl (World.grownBy.refl _ none)
    -- op 5 (slot 22): call
    refine MonoR.step (Pv.eq (.int .u64 (evalI q lc x))) [(2, 19), (3, 20), (4, 21)] (by kernel_rfl) (fun w' hw' => ?_) ?_
    · rintro _ rfl
      rintro _ rfl
      rintro _ rfl
      refine ask_do rfl fun K hK => ?_
      go_simp
      refine (HEV.out w' hw').mono ?_
      rintro e w3 ⟨rfl, hg⟩
      exact hK _ _ rfl rfl hg
    -- op 6 (slot 23): indexAddr
    refine MonoR.step (Pv.eq (.pointer (some ⟨w.heap.size + 1 + 1, j, none⟩))) [(0, 17), (1, 18)] (by kernel_rfl) (fun w' hw' => ?_) ?_
    · rintro _ rfl
      rintro _ rfl
      refine ask_do rfl fun K hK => ?_
      go_simp
      exact hK _ _ rfl rfl (World.grownBy.refl _ none)
    intro w3 hw3
    iterate 5 (intro _ _)
    rintro _ rfl
    rintro _ rfl
    have hbo3 := HBO.out.grown hw3 (by simp)
    have hcl : w3.cell? ⟨w.heap.size + 1 + 1, j, none⟩ = some (.int .u64 (H0[j]'(by rw [HLL.out]; exact hjn))) := by rw [hbo3.cell j]; simp [nums, HLL.out, hjn]
    have hfr := hbo3.free j
    have hgd : W.grownBy w3 none := (grown_drewN' W 1).trans hw3
    have hbo5 := (hbo3.set j (.int .u64 ev)).of_eq (cs' := (nums (H0.set j ev)).toArray) (by simp [nums, List.map_set])
    have hbx5 := (HBx.out.grown hw3 (by simp)).far (p := ⟨w.heap.size + 1 + 1, j, none⟩) (by simp; omega) (.int .u64 ev)
    have hbq5 := (HBq.out.grown hw3 (by simp)).far (p := ⟨w.heap.size + 1 + 1, j, none⟩) (by simp) (.int .u64 ev)
    have hbs5 := Bk.far (HBX.out.kept hw3 (by simp)) (p := ⟨w.heap.size + 1 + 1, j, none⟩) (by simp) (.int .u64 ev)
    have hkf : KeepsFrom W0.heap.size W (w3.setCell ⟨w.heap.size + 1 + 1, j, none⟩ (.int .u64 ev)) := ((keeps_none hgd).trans (KeepsOthers.setCell _ _ _)).from _
    have hWS : w.heap.size + 1 + 1 + 1 + 1 + 1 + 1 < W.heap.size := HWW.out
    have hkp : Kp3 w.heap.size (w.heap.size + 1 + 1 + 1 + 1) (w.heap.size + 1 + 1 + 1 + 1 + 1) (w.heap.size + 1 + 1 + 1 + 1 + 1 + 1) W (w3.setCell ⟨w.heap.size + 1 + 1, j, none⟩ (.int .u64 ev)) :=
      (Kp3.grown hgd (by omega) (by omega) (by omega) hWS).trans ⟨(Below.refl _ w3).setCell (p := ⟨w.heap.size + 1 + 1, j, none⟩) (by simp; omega) _, Below.heap_setCell w3 _ _ _ (by simp; omega), Below.heap_setCell w3 _ _ _ (by simp; omega), Below.heap_setCell w3 _ _ _ (by simp; omega)⟩
    have hbl5 : Below w.heap.size w (w3.setCell ⟨w.heap.size + 1 + 1, j, none⟩ (.int .u64 ev)) := (HBL.out.trans ((below_grown hgd).mono (by omega))).setCell (p := ⟨w.heap.size + 1 + 1, j, none⟩) (by simp; omega) _
    rw [HSN.out, ← HEVE.out]
    have FIN := Lib.hid (And.intro hkf (And.intro hkp (And.intro hbx5 (And.intro hbq5 (And.intro hbo5 (And.intro hbs5 (And.intro hbl5 (show W0.heap.size ≤ (w3.setCell ⟨w.heap.size + 1 + 1, j, none⟩ (.int .u64 ev)).heap.size by have := hgd.size; have := HWL.out.2; simp; omega))))))))
    clear hbo3 hgd hbo5 hbx5 hbq5 hbs5 hkf hkp hbl5 hw3
    rw [HEVE.out] at FIN
    rw [HEVE.out]
    refine wpList_plain rfl fun K hK => ?_
    go_simp
    refine hK _ _ (wpList_nil ?_)
    exact ⟨rfl, FIN.out⟩
  case done =>
    rintro D zs W hD hzs ⟨hbx, hbq, hbo, hbs, hbl, _⟩ hK
    have hcs := hbs.cell
    rw [hzs, HN.out, outArr_all] at hbo
    have hlen : (rowI q f x).length = n := by simp [rowI, HN.out]
    have HR : Hid (Sl encU (fun g => w.heap.size ≤ g) (W.putObj D (.deferred none)) (.slice (some ⟨w.heap.size + 1 + 1, 0, none⟩) n n) (rowI q f x) ∧ w.grownBy (W.putObj D (.deferred none)) none) := Lib.hid ⟨by
      have hb2 := hbo.grown (grownBy_putObj' W D (.deferred none)) (fun e => by injection e with e; omega)
      have := Sl.block (E := encU) (X := fun g => w.heap.size ≤ g) (xs := rowI q f x) (c := n) hb2 (by omega) ((nums (rowI q f x)).map fun v => [v]) (by simp [nums]) (fun i hi hi' => ⟨by simp [nums], by simp only [rowI, List.getElem_map]; exact evalI_U64 _ _ _⟩) (by rw [flatten_singles]) (by rw [hlen]; exact Nat.le_refl _) (by omega)
      rwa [hlen] at this, grown_of_below (hbl.trans (belowK_b (w := w) (Nat.le_refl _) W D _ _ (by omega) hK rfl rfl))⟩
    clear hbo hbx hbq hbs hbl
    gi_wp2
    refine ⟨by simp, .inl ⟨_, _, rfl, run_takeDeferred hK, ?_⟩⟩
    refine ⟨_, results_tmp rfl _ _ _, .slice (some ⟨w.heap.size + 1 + 1, 0, none⟩) n n, rfl, HR.out.1, HR.out.2⟩
end Go.Proofs.YtnjkelojkoeihaaGreatDoor

namespace Go.Proofs.YtnjkelojkoeihaaGreatDoor
open Go Go.RowKit

def colArr (q y : Int) (f : List (List Int)) (j : Nat) : List Int := (f.take j).map (fun c => evalI q c y) ++ List.replicate (f.length - j) 0
theorem colArr_length (q y : Int) (f : List (List Int)) (j : Nat) (h : j ≤ f.length) : (colArr q y f j).length = f.length := by simp [colArr]; omega
theorem colArr_set (q y : Int) (f : List (List Int)) (j : Nat) (h : j < f.length) : (colArr q y f j).set j (evalI q f[j] y) = colArr q y f (j + 1) := by
  refine List.ext_getElem (by rw [List.length_set, colArr_length _ _ _ _ (by omega), colArr_length _ _ _ _ (by omega)]) fun i h1 h2 => ?_
  rw [colArr_length _ _ _ _ (by omega)] at h2
  rw [List.getElem_set]
  split
  · rename_i e
    subst e
    simp only [colArr]
    rw [List.getElem_append_left (by simp; omega)]
    simp
  · rename_i e
    simp only [colArr]
    by_cases hi : i < j
    · rw [List.getElem_append_left (by simp; omega), List.getElem_append_left (by simp; omega)]
      simp
    · rw [List.getElem_append_right (by simp; omega), List.getElem_append_right (by simp; omega)]
      simp
set_option maxRecDepth 100000 in
set_option maxHeartbeats 1000000 in
theorem col_any (v : Value) (f : List (List Int)) (y q : Int) (X : Nat → Prop) (w : World) (hf : Sl (encS encU) X w v f) (hy : U64 y) (hl1 : f.length ≤ 100000) :
    Calls Tryz.prog 93 #[v, .int .u64 y, .int .u64 q] w (Gives encU (fun g => w.heap.size ≤ g) w (colV q f y)) := by
  have HF := Lib.hid hf
  have HY := Lib.hid hy
  obtain ⟨A, c, rfl, hc1, hc2⟩ := hf.form
  clear hf hy
  have hmk := run_make_row' (P := Tryz.prog) 25 22 (.int .u64 0) 8 Tryz.underlying25 info_u64 rfl .i64 .i64 f.length (by omega) (by omega)
  have HST : Hid (Bk (w.alloc (.cells (madeCells #[.int .u64 0] f.length) 22)) w.heap.size 22 (nums (colArr q y f 0)).toArray ∧ w.grownBy (w.alloc (.cells (madeCells #[.int .u64 0] f.length) 22)) none) := Lib.hid ⟨(Bk.new w 22 (madeCells #[.int .u64 0] f.length)).of_eq (Array.toList_inj.1 (by rw [toList_madeCells_one]; simp [nums, colArr])), World.grownBy_alloc w _ none⟩
  go_enter Tryz.func93, Tryz.ntmps93
  go_wp2_with fail
  go_loopg [15] f.length (fun g s15 wx => ∃ j : Nat, j + g = f.length ∧ s15 = .int .i64 j ∧ Hid (Bk wx w.heap.size 22 (nums (colArr q y f j)).toArray ∧ w.grownBy wx none))
  case atStart => exact ⟨0, by omega, rfl, HST⟩
  case round =>
    obtain ⟨j, hj, rfl, HX⟩ := hrel
    cases gk with
    | zero =>
      obtain rfl : j = f.length := by omega
      have HR : Hid (Sl encU (fun g => w.heap.size ≤ g) wr (.slice (some ⟨w.heap.size, 0, none⟩) f.length f.length) (colV q f y) ∧ w.grownBy wr none) := Lib.hid ⟨by
        have h1 := HX.out.1
        rw [show colArr q y f f.length = colV q f y by simp [colArr, colV]] at h1
        have := Sl.block (E := encU) (X := fun g => w.heap.size ≤ g) (xs := colV q f y) (c := f.length) h1 (Nat.le_refl _) ((nums (colV q f y)).map fun v => [v]) (by simp [nums]) (fun i hi hi' => ⟨by simp [nums], by simp only [colV, List.getElem_map]; exact evalI_U64 _ _ _⟩) (by rw [flatten_singles]) (by simp [colV]) (by omega)
        rwa [show (colV q f y).length = f.length by simp [colV]] at this, HX.out.2⟩
      clear HX HST hmk
      go_wp2
      go_ret
      exact ⟨_, rfl, HR.out.1, HR.out.2⟩
    | succ m =>
      have hjn : (j : Int) < (f.length : Int) := by omega
      have hjN : j < f.length := by omega
      have hj0 : (0 : Int) ≤ (j : Int) := by omega
      obtain ⟨g, o, c', u, e, _, _, hcu, hsu⟩ := (HF.out.kept HX.out.2).atS hjN
      injection e with e1 e2 e3
      subst e1 e3
      obtain ⟨A1, c1, e1, _, _⟩ := hsu.form
      subst e1
      have HEV := Lib.hid (eval_any _ f[j] y q _ wr hsu HY.out)
      have HSN := Lib.hid (colArr_set q y f j hjN)
      have HLL := Lib.hid (colArr_length q y f j (by omega))
      have HB := Lib.hid HX.out.1
      have HG := Lib.hid HX.out.2
      clear hsu e2 HX HST hmk
      generalize colArr q y f j = H0 at *
      generalize f[j] = L at *
      generalize L.length = n1 at *
      go_wp2_with fail
      refine HEV.out.mono ?_
      rintro e w1 ⟨rfl, hg1⟩
      have hb1 := HB.out.grown hg1 (by simp)
      have hcl : w1.cell? ⟨w.heap.size, j, none⟩ = some (.int .u64 (H0[j]'(by rw [HLL.out]; exact hjN))) := by rw [hb1.cell j]; simp [nums, HLL.out, hjN]
      have hfr := hb1.free j
      have HFIN : Hid (Bk (w1.setCell ⟨w.heap.size, j, none⟩ (.int .u64 (evalI q L y))) w.heap.size 22 (nums (colArr q y f (j + 1))).toArray ∧ w.grownBy (w1.setCell ⟨w.heap.size, j, none⟩ (.int .u64 (evalI q L y))) none) := Lib.hid ⟨(hb1.set j _).of_eq (by rw [← HSN.out]; simp [nums, List.map_set]), grown_up (HG.out.trans hg1) (grownBy_set (World.grownBy.refl _ (some w.heap.size)) j _) (fun g e => by injection e with e; omega)⟩
      clear hg1 hb1
      go_wp2_with fail
      go_roundg m
      case measure => omega
      case rel => exact ⟨j + 1, by omega, by go_num, HFIN⟩
end Go.Proofs.YtnjkelojkoeihaaGreatDoor
