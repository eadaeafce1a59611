/- deal.cut, walked. -/
import Derived.Test.YtoibeeecmkpdpaaEncW
import Derived.Test.YtoibeeecmkpdpaaGrp
import Derived.Deep.LoopGhost
import Derived.Outline
namespace Go.Proofs.Ytoibeeecmkpdpaa
open Go.RowKit

theorem info_u64 : (Try.prog.info? 22).map (fun i => (i.zero, i.size, i.bytes)) = some (some (.int .u64 0), 1, 8) := by kernel_rfl
theorem info_nums : (Try.prog.info? 25).map (fun i => (i.zero, i.size, i.bytes)) = some (some (.slice none 0 0), 1, 24) := by kernel_rfl
theorem info_rows : (Try.prog.info? 36).map (fun i => (i.zero, i.size, i.bytes)) = some (some (.slice none 0 0), 1, 24) := by kernel_rfl
theorem info_pair : (Try.prog.info? 60).map (fun i => (i.zero, i.size, i.bytes)) = some (some (.agg #[.int .u64 0, .int .u64 0]), 2, 16) := by kernel_rfl
theorem info_pairs : (Try.prog.info? 33).map (fun i => (i.zero, i.size, i.bytes)) = some (some (.slice none 0 0), 1, 24) := by kernel_rfl
theorem el_u64 : ElemOk Try.prog 25 22 1 8 := ElemOk.mk' (by decide) Try.underlying25 info_u64 rfl
theorem el_nums : ElemOk Try.prog 36 25 1 24 := ElemOk.mk' (by decide) Try.underlying36 info_nums rfl
theorem el_rows : ElemOk Try.prog 26 36 1 24 := ElemOk.mk' (by decide) Try.underlying26 info_rows rfl
theorem el_pair : ElemOk Try.prog 33 60 2 16 := ElemOk.mk' (by decide) Try.underlying33 info_pair rfl
theorem el_pairs : ElemOk Try.prog 27 33 1 24 := ElemOk.mk' (by decide) Try.underlying27 info_pairs rfl

set_option maxHeartbeats 400000 in
theorem cutU_any (v : Value) (l : List Int) (n k : Nat) (X Y : Nat → Prop) (w : World) (h : Sl encU X w v l) (hn : 1 ≤ n) (hl : l.length = k * n) (hb : l.length ≤ 100000) (hY : ∀ g, w.heap.size ≤ g → Y g) (hXY : ∀ cs y w', Enc.rep encU (fun g => X g ∧ g < w.heap.size) w' cs y → Enc.rep encU (fun g => Y g ∧ g < w.heap.size) w' cs y) :
    Calls Try.prog 34 #[v, .int .i64 n] w (Gives (encW encU) Y w (chk n l k)) := by
  have hk : k ≤ 100000 := by
    have : k * 1 ≤ k * n := Nat.mul_le_mul_left k hn
    omega
  have hn2 : k ≠ 0 → n ≤ 100000 := fun h0 => by
    have : 1 * n ≤ k * n := Nat.mul_le_mul_right n (by omega)
    omega
  have HL := Lib.hid hl
  have HN2 := Lib.hid hn2
  have HY := Lib.hid hY
  have HXY := Lib.hid hXY
  have HST : Hid (Sl encU X w v (l.drop (0 * n)) ∧ Acc (encW encU) w.heap.size 25 Y w (.slice none 0 0) (chk n l 0) ∧ w.grownBy w none) := Lib.hid ⟨by simpa using h, Acc.nil _ _ _ _ _, World.grownBy.refl w none⟩
  clear h hl hn2 hY hXY hb
  go_enter Try.func34, Try.ntmps34
  go_wp2_with fail
  go_loopg [0, 5] k (fun g s0 s5 wx => ∃ j : Nat, j + g = k ∧ Hid (Sl encU X w s0 (l.drop (j * n)) ∧ Acc (encW encU) w.heap.size 25 Y wx s5 (chk n l j) ∧ w.grownBy wx none))
  case atStart => exact ⟨0, by omega, HST⟩
  case round =>
    obtain ⟨j, hj, HX⟩ := hrel
    cases gk with
    | zero =>
      obtain rfl : j = k := by omega
      obtain ⟨hs, hacc, hg⟩ := HX.out
      obtain ⟨A, c, rfl, _, _⟩ := hs.form
      have h0 : (l.drop (j * n)).length = 0 := by rw [List.length_drop, HL.out]; omega
      rw [h0]
      have HR : Hid (Sl (encW encU) Y wr u5 (chk n l j)) := Lib.hid hacc.sl
      have HG := Lib.hid hg
      clear hs hacc hg HX h0 HST
      go_wp2
      go_ret
      exact ⟨_, rfl, HR.out, HG.out⟩
    | succ m =>
      obtain ⟨hs, hacc, hg⟩ := HX.out
      have hmul : (j + 1 + m) * n = j * n + n + m * n := by rw [Nat.add_mul, Nat.add_mul, Nat.one_mul]
      have hlen : l.length = j * n + n + m * n := by rw [HL.out, ← hj, ← hmul]; congr 1; omega
      have hd : (l.drop (j * n)).length = n + m * n := by rw [List.length_drop]; omega
      obtain ⟨A, c, e0, hc1, hc2⟩ := hs.form
      subst e0
      obtain ⟨ga, oa, eA, hga, _⟩ := hs.addr (by omega)
      subst eA
      have HTK : Hid (Sl encU X w (.slice (some ⟨ga, oa, none⟩) n c) ((l.drop (j * n)).take n)) := Lib.hid (hs.take n (by omega))
      have HDR : Hid (Sl encU X w (.slice (some ⟨ga, oa + n, none⟩) (n + m * n - n) (c - n)) (l.drop ((j + 1) * n))) := Lib.hid (by
        rw [hd] at hs
        have := hs.drop n (by omega)
        rwa [List.drop_drop, show j * n + n = (j + 1) * n by rw [Nat.add_mul, Nat.one_mul], show n * Enc.size encU = n from Nat.mul_one n] at this)
      have HD0 : Hid (m = 0 → l.drop ((j + 1) * n) = []) := Lib.hid (fun hm => List.drop_eq_nil_of_le (by rw [hlen, hm, Nat.add_mul]; omega))
      have HTL : Hid (((l.drop (j * n)).take n).length = n) := Lib.hid (by rw [List.length_take, hd]; omega)
      rw [hd] at hc1 ⊢
      have hn3 : n ≤ 100000 := HN2.out (by omega)
      have HAC := Lib.hid hacc
      have HG := Lib.hid hg
      have HSN := Lib.hid (chk_succ n l j)
      have HCL := Lib.hid (chk_length n l j)
      obtain ⟨q, hq⟩ : ∃ q, q = n + m * n := ⟨_, rfl⟩
      rw [← hq] at hc1 ⊢
      have hqn : n ≤ q := by omega
      clear hs hacc hg HX hd hlen hmul HST
      have HQ := Lib.hid hq
      have i1 : (0 : Int) < (q : Int) := by omega
      have i2 : (n : Int) ≤ (q : Int) := by omega
      have i3 : (n : Int) ≤ (c : Int) := by omega
      have i4 : (0 : Int) ≤ (n : Int) := by omega
      clear hq
      have HOW : Hid (∀ g, u5.ownBlock = some g → w.heap.size ≤ g ∧ g < wr.heap.size) := Lib.hid HAC.out.lt
      have HZ : Hid (∀ cs y, Enc.rep encU (fun g => X g ∧ g < w.heap.size) (wr.alloc (.cells #[] 22)) cs y → Enc.rep encU (fun g => (Y g ∧ some g ≠ u5.ownBlock) ∧ some g ≠ (Value.slice (some ⟨wr.heap.size, 0, none⟩) 0 0).ownBlock) (wr.alloc (.cells #[] 22)) cs y) :=
        Lib.hid (fun cs y hr => Enc.more _ (HXY.out _ _ _ hr) fun g _ hg => ⟨⟨hg.1, fun e => by have := HOW.out g e.symm; have := hg.2; omega⟩, fun e => by simp [Value.ownBlock] at e; have := hg.2; have := HG.out.size; omega⟩)
      have HSB : Hid (Sl encU (fun g => X g ∧ g < w.heap.size) (wr.alloc (.cells #[] 22)) (.slice (some ⟨ga, oa, none⟩) n c) ((l.drop (j * n)).take n)) := Lib.hid (HTK.out.bounded.kept (HG.out.trans (World.grownBy_alloc wr _ none)))
      have HBY : Hid ((([] : List Int).length + ((l.drop (j * n)).take n).length) * 8 ≤ 140737488355328) := Lib.hid (by rw [HTL.out]; simp; omega)
      have HNX : Hid (∀ g, (wr.alloc (.cells #[] 22)).heap.size ≤ g → Y g ∧ some g ≠ u5.ownBlock) := Lib.hid (fun g hg => ⟨HY.out g (by have := HG.out.size; simp at hg; omega), fun e => by have := HOW.out g e.symm; simp at hg; omega⟩)
      go_wp2_with (at_builtin; refine wpList_apps rfl (.tmp 13) (.tmp 16) rfl (E := encU) el_u64 (Acc.made _ wr 22 (Nat.le_refl _) (fun g => Y g ∧ some g ≠ u5.ownBlock) ⟨HY.out _ HG.out.size, fun e => by have := HOW.out _ e.symm; omega⟩) rfl rfl HSB.out HZ.out HBY.out (by simp) HNX.out ?_)
      intro v1 w1 hacc1 hg1 hm1
      obtain ⟨A1, c1, e1, _, _⟩ := hacc1.sl.form
      rw [HTL.out] at e1
      subst e1
      have HA1 := Lib.hid hacc1
      have HG1 : Hid (wr.grownBy w1 none) := Lib.hid (grown_up (World.grownBy_alloc wr _ none) hg1 (fun g e => by simp [Value.ownBlock] at e; omega))
      have HREP : Hid (Enc.rep (encW encU) (fun g => Y g ∧ some g ≠ u5.ownBlock) w1 [.slice A1 n c1] ((l.drop (j * n)).take n)) := Lib.hid (by
        have hn0 : 0 < ((l.drop (j * n)).take n).length := by rw [HTL.out]; omega
        exact ⟨_, rfl, hacc1.sl, hacc1.wr hn0⟩)
      clear hacc1 hg1 hm1
      have HLB : Hid (((chk n l j).length + 1) * 24 ≤ 140737488355328) := Lib.hid (by rw [HCL.out]; omega)
      have HAC1 := Lib.hid (HAC.out.kept HG1.out)
      have HG2 := Lib.hid (HG.out.trans HG1.out)
      have HBS : Hid (w.heap.size ≤ w1.heap.size) := Lib.hid HG2.out.size
      have HNY : Hid (∀ g, w1.heap.size ≤ g → Y g) := Lib.hid (fun g hg => HY.out g (Nat.le_trans HBS.out hg))
      go_wp2_with (at_builtin; refine wpList_push rfl (.tmp 12) (.tmp 18) rfl (E := encW encU) el_nums HAC1.out rfl rfl HREP.out HLB.out HBS.out HNY.out ?_)
      intro v2 w2 hacc2 hg2 hm2
      have HG3 : Hid (w.grownBy w2 none) := Lib.hid (grown_up HG2.out hg2 (fun g e => (HAC1.out.lt g e).1))
      have HG4 : Hid (wr.grownBy w2 u5.ownBlock) := Lib.hid ((grown_weak HG1.out).trans hg2)
      have HA2 : Hid (Acc (encW encU) w.heap.size 25 Y w2 v2 (chk n l (j + 1))) := Lib.hid (by rw [HSN.out]; exact hacc2)
      clear hacc2 hg2 hm2
      have HE : Hid (c = n → l.drop ((j + 1) * n) = []) := Lib.hid (fun hcn => HD0.out (by
        rcases Nat.eq_zero_or_pos m with h | h
        · exact h
        · have := Nat.mul_le_mul h (Nat.le_refl n)
          have := HQ.out
          omega))
      have HDR2 : Hid (Sl encU X w (.slice (some ⟨ga, oa + n, none⟩) (q - n) (c - n)) (l.drop ((j + 1) * n))) := Lib.hid (by rw [HQ.out]; exact HDR.out)
      clear HDR
      go_wp2_with fail
      all_goals
        go_roundg m
        case measure => omega
        case rel => first | exact ⟨j + 1, by omega, Lib.hid ⟨HDR2.out, HA2.out, HG3.out⟩⟩ | exact ⟨j + 1, by omega, Lib.hid ⟨by rw [HE.out (by assumption), show q - n = 0 by omega]; exact Sl.empty _ _ _ _ _ (by omega), HA2.out, HG3.out⟩⟩

set_option maxHeartbeats 400000 in
theorem cutR_any (v : Value) (l : List (List Int)) (n k : Nat) (X Y : Nat → Prop) (w : World) (h : Sl (encW encU) X w v l) (hn : 1 ≤ n) (hl : l.length = k * n) (hb : l.length ≤ 100000) (hY : ∀ g, w.heap.size ≤ g → Y g) (hXY : ∀ cs y w', Enc.rep (encW encU) (fun g => X g ∧ g < w.heap.size) w' cs y → Enc.rep (encW encU) (fun g => Y g ∧ g < w.heap.size) w' cs y) :
    Calls Try.prog 33 #[v, .int .i64 n] w (Gives (encW (encW encU)) Y w (chk n l k)) := by
  have hk : k ≤ 100000 := by
    have : k * 1 ≤ k * n := Nat.mul_le_mul_left k hn
    omega
  have hn2 : k ≠ 0 → n ≤ 100000 := fun h0 => by
    have : 1 * n ≤ k * n := Nat.mul_le_mul_right n (by omega)
    omega
  have HL := Lib.hid hl
  have HN2 := Lib.hid hn2
  have HY := Lib.hid hY
  have HXY := Lib.hid hXY
  have HST : Hid (Sl (encW encU) X w v (l.drop (0 * n)) ∧ Acc (encW (encW encU)) w.heap.size 36 Y w (.slice none 0 0) (chk n l 0) ∧ w.grownBy w none) := Lib.hid ⟨by simpa using h, Acc.nil _ _ _ _ _, World.grownBy.refl w none⟩
  clear h hl hn2 hY hXY hb
  go_enter Try.func33, Try.ntmps33
  go_wp2_with fail
  go_loopg [0, 5] k (fun g s0 s5 wx => ∃ j : Nat, j + g = k ∧ Hid (Sl (encW encU) X w s0 (l.drop (j * n)) ∧ Acc (encW (encW encU)) w.heap.size 36 Y wx s5 (chk n l j) ∧ w.grownBy wx none))
  case atStart => exact ⟨0, by omega, HST⟩
  case round =>
    obtain ⟨j, hj, HX⟩ := hrel
    cases gk with
    | zero =>
      obtain rfl : j = k := by omega
      obtain ⟨hs, hacc, hg⟩ := HX.out
      obtain ⟨A, c, rfl, _, _⟩ := hs.form
      have h0 : (l.drop (j * n)).length = 0 := by rw [List.length_drop, HL.out]; omega
      rw [h0]
      have HR : Hid (Sl (encW (encW encU)) Y wr u5 (chk n l j)) := Lib.hid hacc.sl
      have HG := Lib.hid hg
      clear hs hacc hg HX h0 HST
      go_wp2
      go_ret
      exact ⟨_, rfl, HR.out, HG.out⟩
    | succ m =>
      obtain ⟨hs, hacc, hg⟩ := HX.out
      have hmul : (j + 1 + m) * n = j * n + n + m * n := by rw [Nat.add_mul, Nat.add_mul, Nat.one_mul]
      have hlen : l.length = j * n + n + m * n := by rw [HL.out, ← hj, ← hmul]; congr 1; omega
      have hd : (l.drop (j * n)).length = n + m * n := by rw [List.length_drop]; omega
      obtain ⟨A, c, e0, hc1, hc2⟩ := hs.form
      subst e0
      obtain ⟨ga, oa, eA, hga, _⟩ := hs.addr (by omega)
      subst eA
      have HTK : Hid (Sl (encW encU) X w (.slice (some ⟨ga, oa, none⟩) n c) ((l.drop (j * n)).take n)) := Lib.hid (hs.take n (by omega))
      have HDR : Hid (Sl (encW encU) X w (.slice (some ⟨ga, oa + n, none⟩) (n + m * n - n) (c - n)) (l.drop ((j + 1) * n))) := Lib.hid (by
        rw [hd] at hs
        have := hs.drop n (by omega)
        rwa [List.drop_drop, show j * n + n = (j + 1) * n by rw [Nat.add_mul, Nat.one_mul], show n * Enc.size (encW encU) = n from Nat.mul_one n] at this)
      have HD0 : Hid (m = 0 → l.drop ((j + 1) * n) = []) := Lib.hid (fun hm => List.drop_eq_nil_of_le (by rw [hlen, hm, Nat.add_mul]; omega))
      have HTL : Hid (((l.drop (j * n)).take n).length = n) := Lib.hid (by rw [List.length_take, hd]; omega)
      rw [hd] at hc1 ⊢
      have hn3 : n ≤ 100000 := HN2.out (by omega)
      have HAC := Lib.hid hacc
      have HG := Lib.hid hg
      have HSN := Lib.hid (chk_succ n l j)
      have HCL := Lib.hid (chk_length n l j)
      obtain ⟨q, hq⟩ : ∃ q, q = n + m * n := ⟨_, rfl⟩
      rw [← hq] at hc1 ⊢
      have hqn : n ≤ q := by omega
      clear hs hacc hg HX hd hlen hmul HST
      have HQ := Lib.hid hq
      have i1 : (0 : Int) < (q : Int) := by omega
      have i2 : (n : Int) ≤ (q : Int) := by omega
      have i3 : (n : Int) ≤ (c : Int) := by omega
      have i4 : (0 : Int) ≤ (n : Int) := by omega
      clear hq
      have HOW : Hid (∀ g, u5.ownBlock = some g → w.heap.size ≤ g ∧ g < wr.heap.size) := Lib.hid HAC.out.lt
      have HZ : Hid (∀ cs y, Enc.rep (encW encU) (fun g => X g ∧ g < w.heap.size) (wr.alloc (.cells #[] 25)) cs y → Enc.rep (encW encU) (fun g => (Y g ∧ some g ≠ u5.ownBlock) ∧ some g ≠ (Value.slice (some ⟨wr.heap.size, 0, none⟩) 0 0).ownBlock) (wr.alloc (.cells #[] 25)) cs y) :=
        Lib.hid (fun cs y hr => Enc.more _ (HXY.out _ _ _ hr) fun g _ hg => ⟨⟨hg.1, fun e => by have := HOW.out g e.symm; have := hg.2; omega⟩, fun e => by simp [Value.ownBlock] at e; have := hg.2; have := HG.out.size; omega⟩)
      have HSB : Hid (Sl (encW encU) (fun g => X g ∧ g < w.heap.size) (wr.alloc (.cells #[] 25)) (.slice (some ⟨ga, oa, none⟩) n c) ((l.drop (j * n)).take n)) := Lib.hid (HTK.out.bounded.kept (HG.out.trans (World.grownBy_alloc wr _ none)))
      have HBY : Hid ((([] : List (List Int)).length + ((l.drop (j * n)).take n).length) * 24 ≤ 140737488355328) := Lib.hid (by rw [HTL.out]; simp; omega)
      have HNX : Hid (∀ g, (wr.alloc (.cells #[] 25)).heap.size ≤ g → Y g ∧ some g ≠ u5.ownBlock) := Lib.hid (fun g hg => ⟨HY.out g (by have := HG.out.size; simp at hg; omega), fun e => by have := HOW.out g e.symm; simp at hg; omega⟩)
      go_wp2_with (at_builtin; refine wpList_apps rfl (.tmp 13) (.tmp 16) rfl (E := (encW encU)) el_nums (Acc.made _ wr 25 (Nat.le_refl _) (fun g => Y g ∧ some g ≠ u5.ownBlock) ⟨HY.out _ HG.out.size, fun e => by have := HOW.out _ e.symm; omega⟩) rfl rfl HSB.out HZ.out HBY.out (by simp) HNX.out ?_)
      intro v1 w1 hacc1 hg1 hm1
      obtain ⟨A1, c1, e1, _, _⟩ := hacc1.sl.form
      rw [HTL.out] at e1
      subst e1
      have HA1 := Lib.hid hacc1
      have HG1 : Hid (wr.grownBy w1 none) := Lib.hid (grown_up (World.grownBy_alloc wr _ none) hg1 (fun g e => by simp [Value.ownBlock] at e; omega))
      have HREP : Hid (Enc.rep (encW (encW encU)) (fun g => Y g ∧ some g ≠ u5.ownBlock) w1 [.slice A1 n c1] ((l.drop (j * n)).take n)) := Lib.hid (by
        have hn0 : 0 < ((l.drop (j * n)).take n).length := by rw [HTL.out]; omega
        exact ⟨_, rfl, hacc1.sl, hacc1.wr hn0⟩)
      clear hacc1 hg1 hm1
      have HLB : Hid (((chk n l j).length + 1) * 24 ≤ 140737488355328) := Lib.hid (by rw [HCL.out]; omega)
      have HAC1 := Lib.hid (HAC.out.kept HG1.out)
      have HG2 := Lib.hid (HG.out.trans HG1.out)
      have HBS : Hid (w.heap.size ≤ w1.heap.size) := Lib.hid HG2.out.size
      have HNY : Hid (∀ g, w1.heap.size ≤ g → Y g) := Lib.hid (fun g hg => HY.out g (Nat.le_trans HBS.out hg))
      go_wp2_with (at_builtin; refine wpList_push rfl (.tmp 12) (.tmp 18) rfl (E := encW (encW encU)) el_rows HAC1.out rfl rfl HREP.out HLB.out HBS.out HNY.out ?_)
      intro v2 w2 hacc2 hg2 hm2
      have HG3 : Hid (w.grownBy w2 none) := Lib.hid (grown_up HG2.out hg2 (fun g e => (HAC1.out.lt g e).1))
      have HG4 : Hid (wr.grownBy w2 u5.ownBlock) := Lib.hid ((grown_weak HG1.out).trans hg2)
      have HA2 : Hid (Acc (encW (encW encU)) w.heap.size 36 Y w2 v2 (chk n l (j + 1))) := Lib.hid (by rw [HSN.out]; exact hacc2)
      clear hacc2 hg2 hm2
      have HE : Hid (c = n → l.drop ((j + 1) * n) = []) := Lib.hid (fun hcn => HD0.out (by
        rcases Nat.eq_zero_or_pos m with h | h
        · exact h
        · have := Nat.mul_le_mul h (Nat.le_refl n)
          have := HQ.out
          omega))
      have HDR2 : Hid (Sl (encW encU) X w (.slice (some ⟨ga, oa + n, none⟩) (q - n) (c - n)) (l.drop ((j + 1) * n))) := Lib.hid (by rw [HQ.out]; exact HDR.out)
      clear HDR
      go_wp2_with fail
      all_goals
        go_roundg m
        case measure => omega
        case rel => first | exact ⟨j + 1, by omega, Lib.hid ⟨HDR2.out, HA2.out, HG3.out⟩⟩ | exact ⟨j + 1, by omega, Lib.hid ⟨by rw [HE.out (by assumption), show q - n = 0 by omega]; exact Sl.empty _ _ _ _ _ (by omega), HA2.out, HG3.out⟩⟩

set_option maxHeartbeats 400000 in
theorem cutP_any (v : Value) (l : List (Int × Int)) (n k : Nat) (X Y : Nat → Prop) (w : World) (h : Sl encP X w v l) (hn : 1 ≤ n) (hl : l.length = k * n) (hb : l.length ≤ 100000) (hY : ∀ g, w.heap.size ≤ g → Y g) (hXY : ∀ cs y w', Enc.rep encP (fun g => X g ∧ g < w.heap.size) w' cs y → Enc.rep encP (fun g => Y g ∧ g < w.heap.size) w' cs y) :
    Calls Try.prog 62 #[v, .int .i64 n] w (Gives (encW encP) Y w (chk n l k)) := by
  have hk : k ≤ 100000 := by
    have : k * 1 ≤ k * n := Nat.mul_le_mul_left k hn
    omega
  have hn2 : k ≠ 0 → n ≤ 100000 := fun h0 => by
    have : 1 * n ≤ k * n := Nat.mul_le_mul_right n (by omega)
    omega
  have HL := Lib.hid hl
  have HN2 := Lib.hid hn2
  have HY := Lib.hid hY
  have HXY := Lib.hid hXY
  have HST : Hid (Sl encP X w v (l.drop (0 * n)) ∧ Acc (encW encP) w.heap.size 33 Y w (.slice none 0 0) (chk n l 0) ∧ w.grownBy w none) := Lib.hid ⟨by simpa using h, Acc.nil _ _ _ _ _, World.grownBy.refl w none⟩
  clear h hl hn2 hY hXY hb
  go_enter Try.func62, Try.ntmps62
  go_wp2_with fail
  go_loopg [0, 5] k (fun g s0 s5 wx => ∃ j : Nat, j + g = k ∧ Hid (Sl encP X w s0 (l.drop (j * n)) ∧ Acc (encW encP) w.heap.size 33 Y wx s5 (chk n l j) ∧ w.grownBy wx none))
  case atStart => exact ⟨0, by omega, HST⟩
  case round =>
    obtain ⟨j, hj, HX⟩ := hrel
    cases gk with
    | zero =>
      obtain rfl : j = k := by omega
      obtain ⟨hs, hacc, hg⟩ := HX.out
      obtain ⟨A, c, rfl, _, _⟩ := hs.form
      have h0 : (l.drop (j * n)).length = 0 := by rw [List.length_drop, HL.out]; omega
      rw [h0]
      have HR : Hid (Sl (encW encP) Y wr u5 (chk n l j)) := Lib.hid hacc.sl
      have HG := Lib.hid hg
      clear hs hacc hg HX h0 HST
      go_wp2
      go_ret
      exact ⟨_, rfl, HR.out, HG.out⟩
    | succ m =>
      obtain ⟨hs, hacc, hg⟩ := HX.out
      have hmul : (j + 1 + m) * n = j * n + n + m * n := by rw [Nat.add_mul, Nat.add_mul, Nat.one_mul]
      have hlen : l.length = j * n + n + m * n := by rw [HL.out, ← hj, ← hmul]; congr 1; omega
      have hd : (l.drop (j * n)).length = n + m * n := by rw [List.length_drop]; omega
      obtain ⟨A, c, e0, hc1, hc2⟩ := hs.form
      subst e0
      obtain ⟨ga, oa, eA, hga, _⟩ := hs.addr (by omega)
      subst eA
      have HTK : Hid (Sl encP X w (.slice (some ⟨ga, oa, none⟩) n c) ((l.drop (j * n)).take n)) := Lib.hid (hs.take n (by omega))
      have HDR : Hid (Sl encP X w (.slice (some ⟨ga, oa + n * 2, none⟩) (n + m * n - n) (c - n)) (l.drop ((j + 1) * n))) := Lib.hid (by
        rw [hd] at hs
        have := hs.drop n (by omega)
        rwa [List.drop_drop, show j * n + n = (j + 1) * n by rw [Nat.add_mul, Nat.one_mul]] at this)
      have HD0 : Hid (m = 0 → l.drop ((j + 1) * n) = []) := Lib.hid (fun hm => List.drop_eq_nil_of_le (by rw [hlen, hm, Nat.add_mul]; omega))
      have HTL : Hid (((l.drop (j * n)).take n).length = n) := Lib.hid (by rw [List.length_take, hd]; omega)
      rw [hd] at hc1 ⊢
      have hn3 : n ≤ 100000 := HN2.out (by omega)
      have HAC := Lib.hid hacc
      have HG := Lib.hid hg
      have HSN := Lib.hid (chk_succ n l j)
      have HCL := Lib.hid (chk_length n l j)
      obtain ⟨q, hq⟩ : ∃ q, q = n + m * n := ⟨_, rfl⟩
      rw [← hq] at hc1 ⊢
      have hqn : n ≤ q := by omega
      clear hs hacc hg HX hd hlen hmul HST
      have HQ := Lib.hid hq
      have i1 : (0 : Int) < (q : Int) := by omega
      have i2 : (n : Int) ≤ (q : Int) := by omega
      have i3 : (n : Int) ≤ (c : Int) := by omega
      have i4 : (0 : Int) ≤ (n : Int) := by omega
      clear hq
      have HOW : Hid (∀ g, u5.ownBlock = some g → w.heap.size ≤ g ∧ g < wr.heap.size) := Lib.hid HAC.out.lt
      have HZ : Hid (∀ cs y, Enc.rep encP (fun g => X g ∧ g < w.heap.size) (wr.alloc (.cells #[] 60)) cs y → Enc.rep encP (fun g => (Y g ∧ some g ≠ u5.ownBlock) ∧ some g ≠ (Value.slice (some ⟨wr.heap.size, 0, none⟩) 0 0).ownBlock) (wr.alloc (.cells #[] 60)) cs y) :=
        Lib.hid (fun cs y hr => Enc.more _ (HXY.out _ _ _ hr) fun g _ hg => ⟨⟨hg.1, fun e => by have := HOW.out g e.symm; have := hg.2; omega⟩, fun e => by simp [Value.ownBlock] at e; have := hg.2; have := HG.out.size; omega⟩)
      have HSB : Hid (Sl encP (fun g => X g ∧ g < w.heap.size) (wr.alloc (.cells #[] 60)) (.slice (some ⟨ga, oa, none⟩) n c) ((l.drop (j * n)).take n)) := Lib.hid (HTK.out.bounded.kept (HG.out.trans (World.grownBy_alloc wr _ none)))
      have HBY : Hid ((([] : List (Int × Int)).length + ((l.drop (j * n)).take n).length) * 16 ≤ 140737488355328) := Lib.hid (by rw [HTL.out]; simp; omega)
      have HNX : Hid (∀ g, (wr.alloc (.cells #[] 60)).heap.size ≤ g → Y g ∧ some g ≠ u5.ownBlock) := Lib.hid (fun g hg => ⟨HY.out g (by have := HG.out.size; simp at hg; omega), fun e => by have := HOW.out g e.symm; simp at hg; omega⟩)
      go_wp2_with (at_builtin; refine wpList_apps rfl (.tmp 13) (.tmp 16) rfl (E := encP) el_pair (Acc.made _ wr 60 (Nat.le_refl _) (fun g => Y g ∧ some g ≠ u5.ownBlock) ⟨HY.out _ HG.out.size, fun e => by have := HOW.out _ e.symm; omega⟩) rfl rfl HSB.out HZ.out HBY.out (by simp) HNX.out ?_)
      intro v1 w1 hacc1 hg1 hm1
      obtain ⟨A1, c1, e1, _, _⟩ := hacc1.sl.form
      rw [HTL.out] at e1
      subst e1
      have HA1 := Lib.hid hacc1
      have HG1 : Hid (wr.grownBy w1 none) := Lib.hid (grown_up (World.grownBy_alloc wr _ none) hg1 (fun g e => by simp [Value.ownBlock] at e; omega))
      have HREP : Hid (Enc.rep (encW encP) (fun g => Y g ∧ some g ≠ u5.ownBlock) w1 [.slice A1 n c1] ((l.drop (j * n)).take n)) := Lib.hid (by
        have hn0 : 0 < ((l.drop (j * n)).take n).length := by rw [HTL.out]; omega
        exact ⟨_, rfl, hacc1.sl, hacc1.wr hn0⟩)
      clear hacc1 hg1 hm1
      have HLB : Hid (((chk n l j).length + 1) * 24 ≤ 140737488355328) := Lib.hid (by rw [HCL.out]; omega)
      have HAC1 := Lib.hid (HAC.out.kept HG1.out)
      have HG2 := Lib.hid (HG.out.trans HG1.out)
      have HBS : Hid (w.heap.size ≤ w1.heap.size) := Lib.hid HG2.out.size
      have HNY : Hid (∀ g, w1.heap.size ≤ g → Y g) := Lib.hid (fun g hg => HY.out g (Nat.le_trans HBS.out hg))
      go_wp2_with (at_builtin; refine wpList_push rfl (.tmp 12) (.tmp 18) rfl (E := encW encP) el_pairs HAC1.out rfl rfl HREP.out HLB.out HBS.out HNY.out ?_)
      intro v2 w2 hacc2 hg2 hm2
      have HG3 : Hid (w.grownBy w2 none) := Lib.hid (grown_up HG2.out hg2 (fun g e => (HAC1.out.lt g e).1))
      have HG4 : Hid (wr.grownBy w2 u5.ownBlock) := Lib.hid ((grown_weak HG1.out).trans hg2)
      have HA2 : Hid (Acc (encW encP) w.heap.size 33 Y w2 v2 (chk n l (j + 1))) := Lib.hid (by rw [HSN.out]; exact hacc2)
      clear hacc2 hg2 hm2
      have HE : Hid (c = n → l.drop ((j + 1) * n) = []) := Lib.hid (fun hcn => HD0.out (by
        rcases Nat.eq_zero_or_pos m with h | h
        · exact h
        · have := Nat.mul_le_mul h (Nat.le_refl n)
          have := HQ.out
          omega))
      have HDR2 : Hid (Sl encP X w (.slice (some ⟨ga, oa + n * 2, none⟩) (q - n) (c - n)) (l.drop ((j + 1) * n))) := Lib.hid (by rw [HQ.out]; exact HDR.out)
      clear HDR
      go_wp2_with fail
      all_goals
        go_roundg m
        case measure => omega
        case rel => first | exact ⟨j + 1, by omega, Lib.hid ⟨HDR2.out, HA2.out, HG3.out⟩⟩ | exact ⟨j + 1, by omega, Lib.hid ⟨by rw [HE.out (by assumption), show q - n = 0 by omega]; exact Sl.empty _ _ _ _ _ (by omega), HA2.out, HG3.out⟩⟩

end Go.Proofs.Ytoibeeecmkpdpaa
