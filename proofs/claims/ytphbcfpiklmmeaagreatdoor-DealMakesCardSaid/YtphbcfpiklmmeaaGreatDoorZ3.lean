/- bivar.columns, an iterator over the columns of lists, walked. bivar.Row and Col, walked. bivar.Col, walked. What deal.Make makes: its lists, and two lists side by side in a struct that is written. math/bits.TrailingZeros64 and mod.Prime, walked. What comes in: data of whatever depth, as the walks want it. group.May, walked: its asks one by one. group.May, walked: the asks as values, and the whole. The document's comparisons, of what is the same, walked. The document's comparison of models, of what is the same, walked. Weights, sums and commitments reckoned: what Lean can decide. Powers and commitments modulo P: plain arithmetic. The plain law of weights: places apart, rows turned about, one place alone. No program in sight but the data's words. The plain law of weights: rows turned about, one place alone. What members' pairs, and dealers' commitments, come to: in whatever row, and of one alone: the plain law of ShareRows. deal.Make, walked (printed by mk_dealh.py). The plain law of ShareFits: what shares come to fits what their commitments come to. The plain law of weights at 0: two or three points tell a polynomial's first number. consistorylaw20.some, walked; three lists side by side. The plain law of ShareWhole: the shares of T + 1 members come to the secrets, and these are the model's. -/
import Derived.Test.YtphbcfpiklmmeaaGreatDoorZ2
import Derived.Lib.TrailingZeros
import Derived.Deep.LoopGhost
import Derived.WalkMore
import Derived.ProofKit
import Derived.OpenShut
import Derived.ChangeOld
import Derived.Deep.Slices
import Derived.Deep.QuietTactic
import Derived.BigQuiet
import Derived.IntWalk
namespace Go.Proofs.YtphbcfpiklmmeaaGreatDoor
open Go Go.RowKit Go.Shelf

attribute [local go_sem] Oper.semAt_some
/-- The j-th numbers of all lists; 0 where there is none. -/
def colZ (f : List (List Int)) (j : Nat) : List Int := f.map fun c => c[j]?.getD 0
theorem colZ_snoc (l : List (List Int)) (i j : Nat) (h : i < l.length) : colZ (l.take (i + 1)) j = colZ (l.take i) j ++ [l[i][j]?.getD 0] := map_take_snoc' _ l i h
theorem colZ_length (f : List (List Int)) (j : Nat) : (colZ f j).length = f.length := by simp [colZ]
set_option maxHeartbeats 400000 in
theorem reads_one (A : Option Addr) (m c : Nat) (w : World) :
    Calls Tryz.prog 134 #[.slice A m c] w fun e w' => e = .returned (.func (.func 139) #[] #[.pointer (some ⟨w.heap.size, 0, none⟩)]) ∧ w' = w.alloc (.cells #[.slice A m c] 32) := by
  go_enter Tryz.func134, Tryz.ntmps134
  go_wp2
  go_ret
  exact ⟨rfl, rfl⟩
set_option maxHeartbeats 400000 in
theorem readsAt_any (B : Nat) (v : Value) (f : List (List Int)) (i j : Nat) (X : Nat → Prop) (w : World) (hb : Boxed w B 32 v) (h : Sl (encS encU) X w v f) (hi : i < f.length) (hj : (j : Int) ≤ 9223372036854775807) :
    Calls Tryz.prog 139 #[.int .i64 i, .int .i64 j, .pointer (some ⟨B, 0, none⟩)] w fun e w' => e = .returned (.int .u64 (f[i][j]?.getD 0)) ∧ w' = w := by
  have hc := hb.cell
  obtain ⟨g, o, c', u, e, _, _, hcu, hsu⟩ := h.atS hi
  subst e
  have hi0 : (0 : Int) ≤ (i : Int) := by omega
  have hj0 : (0 : Int) ≤ (j : Int) := by omega
  have hil : (i : Int) < (f.length : Int) := by omega
  obtain ⟨A1, c1, rfl, _, _⟩ := hsu.form
  by_cases hl : j < f[i].length
  · obtain ⟨g1, o1, c2, e, _, _, hcv, _⟩ := hsu.atU hl
    injection e with e1 e2 e3
    subst e1 e3
    have hli : (j : Int) < (f[i].length : Int) := by omega
    rw [show f[i][j]?.getD 0 = f[i][j] by rw [List.getElem?_eq_getElem hl]; rfl]
    generalize f[i][j] = y at *
    clear hsu hb h e2
    generalize f[i].length = m at *
    go_enter Tryz.func139, Tryz.ntmps139
    go_wp2
    go_ret
    exact ⟨rfl, rfl⟩
  · have hli : ¬ (j : Int) < (f[i].length : Int) := by omega
    have hli2 : (f[i].length : Int) ≤ (j : Int) := by omega
    rw [show f[i][j]?.getD 0 = 0 by rw [List.getElem?_eq_none (by omega)]; rfl]
    clear hsu hb h
    generalize f[i].length = m at *
    go_enter Tryz.func139, Tryz.ntmps139
    go_wp2
    go_ret
    exact ⟨rfl, rfl⟩
/-- What columns tells: a function that has f, and how f is read, in boxes. -/
def ColsOut (A : Option Addr) (m c : Nat) (w : World) (e : Ending) (w' : World) : Prop :=
  e = .returned (.func (.func 135) #[] #[.pointer (some ⟨w.heap.size, 0, none⟩), .pointer (some ⟨w.heap.size + 1 + 1, 0, none⟩)]) ∧ Boxed w' w.heap.size 32 (.slice A m c) ∧ Boxed w' (w.heap.size + 1) 32 (.slice A m c) ∧
  Boxed w' (w.heap.size + 1 + 1) 148 (.func (.func 139) #[] #[.pointer (some ⟨w.heap.size + 1, 0, none⟩)]) ∧ w.grownBy w' none ∧ w'.heap.size = w.heap.size + 1 + 1 + 1
set_option maxHeartbeats 400000 in
theorem columns_any (A : Option Addr) (m c : Nat) (w : World) :
    Calls Tryz.prog 101 #[.slice A m c] w (ColsOut A m c w) := by
  have e1 : (w.alloc (.cells #[.slice A m c] 32)).heap.size = w.heap.size + 1 := by simp
  have e2 : ((w.alloc (.cells #[.slice A m c] 32)).alloc (.cells #[.slice A m c] 32)).heap.size = w.heap.size + 1 + 1 := by simp
  have b3 := Boxed.new ((w.alloc (.cells #[.slice A m c] 32)).alloc (.cells #[.slice A m c] 32)) 148 .nilFunc
  rw [e2] at b3
  have hc3 := b3.cell
  have hf3 := b3.frozen
  have hrun : (store ⟨w.heap.size + 1 + 1, 0, none⟩ (.func (.func 139) #[] #[.pointer (some ⟨w.heap.size + 1, 0, none⟩)])).run Tryz.prog (((w.alloc (.cells #[.slice A m c] 32)).alloc (.cells #[.slice A m c] 32)).alloc (.cells #[.nilFunc] 148)) = .ok () ((((w.alloc (.cells #[.slice A m c] 32)).alloc (.cells #[.slice A m c] 32)).alloc (.cells #[.nilFunc] 148)).setCell ⟨w.heap.size + 1 + 1, 0, none⟩ (.func (.func 139) #[] #[.pointer (some ⟨w.heap.size + 1, 0, none⟩)])) := by
    simp only [store, Sem.run, hc3, hf3]
    rfl
  have HF : Hid (ColsOut A m c w (.returned (.func (.func 135) #[] #[.pointer (some ⟨w.heap.size, 0, none⟩), .pointer (some ⟨w.heap.size + 1 + 1, 0, none⟩)])) (((w.alloc (.cells #[.slice A m c] 32)).alloc (.cells #[.slice A m c] 32)).alloc (.cells #[.func (.func 139) #[] #[.pointer (some ⟨w.heap.size + 1, 0, none⟩)]] 148))) := Lib.hid (by
    have b1 := ((Boxed.new w 32 (.slice A m c)).alloc (.cells #[.slice A m c] 32)).alloc (.cells #[.func (.func 139) #[] #[.pointer (some ⟨w.heap.size + 1, 0, none⟩)]] 148)
    have b2 := (Boxed.new (w.alloc (.cells #[.slice A m c] 32)) 32 (.slice A m c)).alloc (.cells #[.func (.func 139) #[] #[.pointer (some ⟨w.heap.size + 1, 0, none⟩)]] 148)
    have b4 := Boxed.new ((w.alloc (.cells #[.slice A m c] 32)).alloc (.cells #[.slice A m c] 32)) 148 (.func (.func 139) #[] #[.pointer (some ⟨w.heap.size + 1, 0, none⟩)])
    rw [e1] at b2
    rw [e2] at b4
    exact ⟨rfl, b1, b2, b4, ((World.grownBy_alloc w _ none).trans (World.grownBy_alloc _ _ none)).trans (World.grownBy_alloc _ _ none), by simp⟩)
  clear b3 e1 e2
  go_enter Tryz.func101, Tryz.ntmps101
  go_wp2_with fail
  refine (reads_one A m c _).mono ?_
  rintro e w1 ⟨rfl, rfl⟩
  go_wp2
  go_ret
  exact HF.out
/-- A column as it is handed over: its place, the slice, the numbers. -/
structure Colx where
  j : Nat
  v : Value
  c : List Int
/-- What a round of the iterator keeps: what lay below n₀, and three boxes. -/
def Kp3 (n₀ B1 B2 B3 : Nat) (A B : World) : Prop := Below n₀ A B ∧ B.heap[B1]? = A.heap[B1]? ∧ B.heap[B2]? = A.heap[B2]? ∧ B.heap[B3]? = A.heap[B3]?
theorem Kp3.refl (n₀ B1 B2 B3 : Nat) (A : World) : Kp3 n₀ B1 B2 B3 A A := ⟨Below.refl _ _, rfl, rfl, rfl⟩
theorem Kp3.trans {n₀ B1 B2 B3 : Nat} {A B C : World} (h : Kp3 n₀ B1 B2 B3 A B) (k : Kp3 n₀ B1 B2 B3 B C) : Kp3 n₀ B1 B2 B3 A C := ⟨h.1.trans k.1, k.2.1.trans h.2.1, k.2.2.1.trans h.2.2.1, k.2.2.2.trans h.2.2.2⟩
theorem Kp3.grown {n₀ B1 B2 B3 : Nat} {A B : World} (hg : A.grownBy B none) (hn : n₀ ≤ A.heap.size) (h1 : B1 < A.heap.size) (h2 : B2 < A.heap.size) (h3 : B3 < A.heap.size) : Kp3 n₀ B1 B2 B3 A B :=
  ⟨(below_grown hg).mono hn, hg.block _ h1 (by simp), hg.block _ h2 (by simp), hg.block _ h3 (by simp)⟩
theorem Kp3.b {n₀ B1 B2 B3 : Nat} {w : World} (hn : n₀ ≤ w.heap.size) (h1 : B1 < w.heap.size) (h2 : B2 < w.heap.size) (h3 : B3 < w.heap.size) (W : World) (l : Nat) (o o' : Obj) (hl : w.heap.size ≤ l) (h : W.heap[l]? = some o) (k1 : o.isCells = false) (k2 : o.isWalk = false) : Kp3 n₀ B1 B2 B3 W (W.putObj l o') := by
  have hlt := (Array.getElem?_eq_some_iff.1 h).1
  have hg := grownBy_putObj' W l o'
  exact ⟨belowK_b hn W l o o' hl h k1 k2, hg.block _ (by omega) (fun e => by injection e with e; omega), hg.block _ (by omega) (fun e => by injection e with e; omega), hg.block _ (by omega) (fun e => by injection e with e; omega)⟩
def colFx (n₁ n : Nat) (x : Colx) (W : World) : Prop := Sl encU (fun g => n₁ ≤ g) W x.v x.c ∧ x.j < n
def colsOf (f : List (List Int)) : List (Nat × List Int) := (List.range (wideI f)).map fun j => (j, colZ f j)
set_option maxRecDepth 100000 in
set_option maxHeartbeats 2000000 in
theorem columns_goes (n : Nat) (hn : 1 ≤ n) (B1 B2 B3 : Nat) (v : Value) (f : List (List Int)) (X : Nat → Prop) (w₀ w1 : World) (h01 : Below w₀.heap.size w₀ w1) (hb1 : Boxed w1 B1 32 v) (hb2 : Boxed w1 B2 32 v) (hb3 : Boxed w1 B3 148 (.func (.func 139) #[] #[.pointer (some ⟨B2, 0, none⟩)])) (hf : Sl (encS encU) X w₀ v f) (hl1 : f.length ≤ 100000) (hl2 : ∀ c ∈ f, c.length ≤ 100000) :
    SeqGoes Fence.wide n Tryz.prog 135 #[.pointer (some ⟨B1, 0, none⟩), .pointer (some ⟨B3, 0, none⟩)] (fun x : Colx => #[.int .i64 x.j, x.v]) (colFx w1.heap.size (wideI f)) (Kp3 w₀.heap.size B1 B2 B3) (fun xs => xs.map (fun x => (x.j, x.c)) = colsOf f) (wideI f) w1 := by
  intro l J W hW hJ hY h0
  refine callsIn_of_wp Tryz.func135 rfl trivial ?_ rfl
  simp only [Tryz.ntmps135, List.size_toArray, List.length_cons, List.length_nil, Nat.reduceAdd, Nat.reduceSub, Array.replicate_succ, Array.replicate_zero, List.push_toArray, List.append_toArray, List.nil_append, List.cons_append]
  have HB1 : Hid (Boxed W B1 32 v) := Lib.hid ((hW.5 B1 hb1.lt).trans hb1)
  have HB2 : Hid (Boxed W B2 32 v) := Lib.hid ((hW.5 B2 hb2.lt).trans hb2)
  have HB3 : Hid (Boxed W B3 148 (.func (.func 139) #[] #[.pointer (some ⟨B2, 0, none⟩)])) := Lib.hid ((hW.5 B3 hb3.lt).trans hb3)
  have HG0 : Hid (w₀.grownBy W none) := Lib.hid (grown_of_below (h01.trans (hW.mono h01.size)))
  have HWS : Hid (w1.heap.size ≤ W.heap.size) := Lib.hid hW.size
  have HF := Lib.hid hf
  have HLC := Lib.hid hl2
  have HWB : Hid (wideI f ≤ 100000) := Lib.hid (wide_le f _ hl2)
  obtain ⟨A1, c1, rfl, _, _⟩ := hf.form
  have HLB1 := Lib.hid hb1.lt
  have HLB2 := Lib.hid hb2.lt
  have HLB3 := Lib.hid hb3.lt
  have ca := HB1.out.cell
  have HWI := Lib.hid (wide_any _ f X W (HF.out.kept HG0.out) hl2)
  have HH0 := Lib.hid h0
  have HL : Hid ((colsOf f).length = wideI f) := Lib.hid (by simp [colsOf])
  clear hb1 hb2 hb3 hf h0 hl2
  obtain ⟨N, hN⟩ : ∃ N, N = wideI f := ⟨_, rfl⟩
  rw [← hN] at HWI HWB HL hY
  have HN := Lib.hid hN
  have HN9 : N ≤ 100000 := HWB.out
  clear hN
  gi_wp2_with (refine ⟨trivial, ?_⟩; refine (callsIn_wide.2 HWI.out).mono ?_; rintro e w' ⟨rfl, hw'⟩; obtain rfl : W = w' := hw'.symm)
  gi_loopw [9] (fun s9 wr => ∃ (k : Nat) (pre : List Colx), k ≤ N ∧ s9 = .int .i64 k ∧ Hid (pre.map (fun x => (x.j, x.c)) = (colsOf f).take k ∧ J pre wr ∧ Kp3 w₀.heap.size B1 B2 B3 W wr)) (fun s9 _ => N - (intOf s9).toNat)
  case atStart => exact ⟨0, [], by omega, rfl, Lib.hid ⟨rfl, HH0.out, Kp3.refl _ _ _ _ _⟩⟩
  case round =>
    rename World => wr
    obtain ⟨k, pre, hk, rfl, HX⟩ := hrel
    by_cases hlt : k < N
    · have hki : (k : Int) < (N : Int) := by omega
      have hkb : (k : Int) ≤ 9223372036854775807 := by omega
      have hpl : pre.length = k := by have := congrArg List.length HX.out.1; simpa [HL.out, Nat.min_eq_left hk] using this
      have HBr1 : Hid (Boxed wr B1 32 (.slice A1 f.length c1)) := Lib.hid (HX.out.2.2.2.1.trans HB1.out)
      have HBr2 : Hid (Boxed wr B2 32 (.slice A1 f.length c1)) := Lib.hid (HX.out.2.2.2.2.1.trans HB2.out)
      have HBr3 : Hid (Boxed wr B3 148 (.func (.func 139) #[] #[.pointer (some ⟨B2, 0, none⟩)])) := Lib.hid (HX.out.2.2.2.2.2.trans HB3.out)
      have HGW : Hid (w₀.grownBy wr none) := Lib.hid (grown_of_below ((below_grown HG0.out).trans HX.out.2.2.1))
      have HWR : Hid (W.heap.size ≤ wr.heap.size) := Lib.hid HX.out.2.2.1.size
      have hca := HBr1.out.cell
      clear ca
      have HI0 : Hid (Acc encU wr.heap.size 22 (fun g => wr.heap.size ≤ g) wr (.slice none 0 0) (colZ (f.take 0) k) ∧ wr.grownBy wr none) := Lib.hid ⟨Acc.nil _ _ _ _ _, World.grownBy.refl _ _⟩
      gi_wp2
      refine wpIn_wide.2 ?_
      go_loopg [5, 14] f.length (fun g s5 s14 wx => ∃ i : Nat, i + g = f.length ∧ s14 = .int .i64 i ∧ Hid (Acc encU wr.heap.size 22 (fun g => wr.heap.size ≤ g) wx s5 (colZ (f.take i) k) ∧ wr.grownBy wx none))
      case atStart => exact ⟨0, by omega, rfl, HI0⟩
      case round =>
        rename World => wi
        obtain ⟨i, hi, rfl, HY⟩ := hrel
        cases gk with
        | zero =>
          obtain rfl : i = f.length := by omega
          have HJi : Hid (J pre wi) := Lib.hid (hJ _ wr wi none HX.out.2.1 HY.out.2 (by simp))
          have HC : Hid (Sl encU (fun g => w1.heap.size ≤ g) wi u5 (colZ f k)) := Lib.hid (by have := HY.out.1.sl; rw [List.take_length] at this; exact this.more (fun g _ hg => by have := HWS.out; have := HWR.out; omega))
          obtain ⟨fn, tmps, assign, body, hy, hR⟩ := hY pre ⟨k, u5, colZ f k⟩ wi HJi.out ⟨HC.out, hlt⟩ (by rw [hpl]; exact hlt)
          dsimp only at hy
          have HR := Lib.hid hR
          have HPN : Hid ((pre ++ [(⟨k, u5, colZ f k⟩ : Colx)]).map (fun x => (x.j, x.c)) = (colsOf f).take (k + 1)) := Lib.hid (by
            have hkz : k < (colsOf f).length := by rw [HL.out]; exact hlt
            rw [List.map_append, HX.out.1, List.take_succ_eq_append_getElem hkz]
            simp [colsOf])
          have HKr : Hid (Kp3 w₀.heap.size B1 B2 B3 W wi) := Lib.hid (HX.out.2.2.trans (Kp3.grown HY.out.2 (Nat.le_trans HGW.out.size (Nat.le_refl _)) HBr1.out.lt HBr2.out.lt HBr3.out.lt))
          clear hR HI0 HY
          go_wp2_with fail
          gi_wp2_with ((with_reducible refine HR.out.mono ?_); rintro e W' ⟨rfl, hJ2, hK2⟩)
          exact ⟨⟨k + 1, _, by omega, by go_num, Lib.hid ⟨HPN.out, hJ2, HKr.out.trans hK2⟩⟩, by simp [intOf]; omega⟩
        | succ m =>
          have hin : (i : Int) < (f.length : Int) := by omega
          have hiN : i < f.length := by omega
          have HSf := Lib.hid ((HF.out.kept HGW.out).kept HY.out.2)
          have hB2 := HBr2.out.kept HY.out.2 (by simp)
          have hB3 := HBr3.out.kept HY.out.2 (by simp)
          have hc3 := hB3.cell
          have HCT := Lib.hid (readsAt_any B2 _ f i k X wi hB2 HSf.out hiN hkb)
          have HSN := Lib.hid (colZ_snoc f i k hiN)
          have HUX : Hid (U64 (f[i][k]?.getD 0)) := Lib.hid (by
            obtain ⟨_, _, _, u, _, _, _, _, hsu⟩ := HSf.out.atS hiN
            exact getD_U64 k hsu)
          have HA := Lib.hid HY.out.1
          have HGY := Lib.hid HY.out.2
          have HLB : Hid (((colZ (f.take i) k).length + 1) * 8 ≤ 140737488355328) := Lib.hid (by rw [colZ_length]; simp; omega)
          clear hB2 hB3 HY HI0 HSf
          generalize f[i][k]?.getD 0 = y at *
          go_wp2_with fail
          refine HCT.out.mono ?_
          rintro e w' ⟨rfl, rfl⟩
          go_wp2_with (at_builtin; refine wpList_pushG rfl (.tmp 17) (.tmp 22) rfl (E := encU) el_u64 HGY.out HA.out (fun _ h => h) ⟨rfl, HUX.out⟩ HLB.out rfl rfl ?_)
          intro v2 w2 hacc2 hg2 hgo
          have HFIN : Hid (Acc encU wr.heap.size 22 (fun g => wr.heap.size ≤ g) w2 v2 (colZ (f.take (i + 1)) k) ∧ wr.grownBy w2 none) := Lib.hid ⟨by rw [HSN.out]; exact hacc2, hg2⟩
          clear hacc2 hg2 hgo hc3
          go_wp2_with fail
          go_roundg m
          case measure => omega
          case rel => exact ⟨i + 1, by omega, by go_num, HFIN⟩
    · obtain rfl : k = N := by omega
      gi_wp2
      go_end0
      exact ⟨⟨_, rfl⟩, pre, by rw [HX.out.1, ← HL.out, List.take_length], HX.out.2.1⟩
end Go.Proofs.YtphbcfpiklmmeaaGreatDoor

namespace Go.Proofs.YtphbcfpiklmmeaaGreatDoor
open Go Go.RowKit Go.Shelf

attribute [local go_sem] Oper.semAt_some
/-- The row, and the column, at a place. -/
def rowI (q : Int) (f : List (List Int)) (x : Int) : List Int := (List.range (wideI f)).map fun j => evalI q (colZ f j) x
def colV (q : Int) (f : List (List Int)) (y : Int) : List Int := f.map fun c => evalI q c y
/-- What the array holds behind some rounds. -/
def outArr (q x : Int) (n : Nat) (xs : List (Nat × List Int)) : List Int := xs.foldl (fun h e => h.set e.1 (evalI q e.2 x)) (List.replicate n 0)
theorem foldl_set_length (q x : Int) : ∀ (xs : List (Nat × List Int)) (h : List Int), (xs.foldl (fun h e => h.set e.1 (evalI q e.2 x)) h).length = h.length
  | [], _ => rfl
  | _ :: xs, _ => (foldl_set_length q x xs _).trans (List.length_set ..)
theorem outArr_length (q x : Int) (n : Nat) (xs : List (Nat × List Int)) : (outArr q x n xs).length = n := by
  unfold outArr
  rw [foldl_set_length]
  simp
theorem outArr_snoc (q x : Int) (n : Nat) (xs : List (Nat × List Int)) (e : Nat × List Int) : outArr q x n (xs ++ [e]) = (outArr q x n xs).set e.1 (evalI q e.2 x) := by simp [outArr]
theorem outArr_upto (q x : Int) (f : List (List Int)) (n : Nat) : ∀ k, k ≤ n → ∀ i (hi : i < (outArr q x n ((List.range k).map fun j => (j, colZ f j))).length), (outArr q x n ((List.range k).map fun j => (j, colZ f j)))[i] = if i < k then evalI q (colZ f i) x else 0
  | 0, _, i, hi => by simp [outArr]
  | k + 1, hk, i, hi => by
    have e : (List.range (k + 1)).map (fun j => (j, colZ f j)) = (List.range k).map (fun j => (j, colZ f j)) ++ [(k, colZ f k)] := by simp [List.range_succ]
    simp only [e, outArr_snoc]
    rw [List.getElem_set]
    split
    · rename_i h
      subst h
      simp
    · rename_i h
      rw [outArr_upto q x f n k (by omega) i]
      by_cases h1 : i < k
      · simp [h1, show i < k + 1 by omega]
      · simp [h1, show ¬ i < k + 1 by omega]
theorem outArr_all (q x : Int) (f : List (List Int)) : outArr q x (wideI f) (colsOf f) = rowI q f x := by
  refine List.ext_getElem (by rw [outArr_length]; simp [rowI]) fun i h1 h2 => ?_
  have h3 : i < wideI f := by rwa [outArr_length] at h1
  have := outArr_upto q x f (wideI f) (wideI f) (Nat.le_refl _) i h1
  rw [show (outArr q x (wideI f) (colsOf f))[i] = _ from this]
  simp [h3, rowI]
set_option maxRecDepth 100000 in
set_option maxHeartbeats 2000000 in
theorem row_in (n0 : Nat) (hn0 : 6 ≤ n0) (v : Value) (f : List (List Int)) (x q : Int) (X : Nat → Prop) (w : World) (hf : Sl (encS encU) X w v f) (hx : U64 x) (hl1 : f.length ≤ 100000) (hl2 : ∀ c ∈ f, c.length ≤ 100000) :
    CallsIn Fence.wide n0 Tryz.prog 42 #[v, .int .u64 x, .int .u64 q] w (Gives encU (fun g => w.heap.size ≤ g) w (rowI q f x)) := by
  have h1 : 1 ≤ n0 := by omega
  have HF := Lib.hid hf
  have HX := Lib.hid hx
  have HWB : Hid (wideI f ≤ 100000) := Lib.hid (wide_le f _ hl2)
  obtain ⟨A1, c1, rfl, _, _⟩ := hf.form
  have HWI := Lib.hid (fun w' (hw : w.grownBy w' none) => wide_any _ f X w' (hf.kept hw) hl2)
  clear hf hx
  obtain ⟨n, hn⟩ : ∃ n, n = wideI f := ⟨_, rfl⟩
  have HN := Lib.hid hn
  rw [← hn] at HWI HWB
  have hn9 : n ≤ 100000 := HWB.out
  have hmk := run_make_row' (P := Tryz.prog) 25 22 (.int .u64 0) 8 Tryz.underlying25 info_u64 rfl .i64 .i64 n (by omega) (by omega)
  have HG2 : Hid (w.grownBy ((w.alloc (.cells #[.int .u64 x] 22)).alloc (.cells #[.int .u64 q] 22)) none) := Lib.hid ((World.grownBy_alloc w _ none).trans (World.grownBy_alloc _ _ none))
  clear hn
  refine callsIn_of_wp_marks Tryz.func42 rfl trivial ?_ rfl
  simp only [Tryz.ntmps42, List.size_toArray, List.length_cons, List.length_nil, Nat.reduceAdd, Nat.reduceSub, Array.replicate_succ, Array.replicate_zero, List.push_toArray, List.append_toArray, List.nil_append, List.cons_append]
  gi_wp2_with (refine ⟨trivial, ?_⟩; refine (callsIn_wide.2 (HWI.out _ HG2.out)).mono ?_; rintro e w' ⟨rfl, hw'⟩; subst hw')
  have HBS : Hid (Bk ((((w.alloc (.cells #[.int .u64 x] 22)).alloc (.cells #[.int .u64 q] 22)).alloc (.cells (madeCells #[.int .u64 0] n) 22)).alloc (.cells #[.slice (some ⟨w.heap.size + 1 + 1, 0, none⟩) n n] 25)) w.heap.size 22 #[.int .u64 x] ∧ Bk ((((w.alloc (.cells #[.int .u64 x] 22)).alloc (.cells #[.int .u64 q] 22)).alloc (.cells (madeCells #[.int .u64 0] n) 22)).alloc (.cells #[.slice (some ⟨w.heap.size + 1 + 1, 0, none⟩) n n] 25)) (w.heap.size + 1) 22 #[.int .u64 q] ∧ Bk ((((w.alloc (.cells #[.int .u64 x] 22)).alloc (.cells #[.int .u64 q] 22)).alloc (.cells (madeCells #[.int .u64 0] n) 22)).alloc (.cells #[.slice (some ⟨w.heap.size + 1 + 1, 0, none⟩) n n] 25)) (w.heap.size + 1 + 1) 22 (nums (List.replicate n 0)).toArray ∧ Boxed ((((w.alloc (.cells #[.int .u64 x] 22)).alloc (.cells #[.int .u64 q] 22)).alloc (.cells (madeCells #[.int .u64 0] n) 22)).alloc (.cells #[.slice (some ⟨w.heap.size + 1 + 1, 0, none⟩) n n] 25)) (w.heap.size + 1 + 1 + 1) 25 (.slice (some ⟨w.heap.size + 1 + 1, 0, none⟩) n n) ∧ w.grownBy ((((w.alloc (.cells #[.int .u64 x] 22)).alloc (.cells #[.int .u64 q] 22)).alloc (.cells (madeCells #[.int .u64 0] n) 22)).alloc (.cells #[.slice (some ⟨w.heap.size + 1 + 1, 0, none⟩) n n] 25)) none ∧ ((((w.alloc (.cells #[.int .u64 x] 22)).alloc (.cells #[.int .u64 q] 22)).alloc (.cells (madeCells #[.int .u64 0] n) 22)).alloc (.cells #[.slice (some ⟨w.heap.size + 1 + 1, 0, none⟩) n n] 25)).heap.size = w.heap.size + 1 + 1 + 1 + 1) := Lib.hid (by
    have e1 : (w.alloc (.cells #[.int .u64 x] 22)).heap.size = w.heap.size + 1 := by simp
    have e2 : ((w.alloc (.cells #[.int .u64 x] 22)).alloc (.cells #[.int .u64 q] 22)).heap.size = w.heap.size + 1 + 1 := by simp
    have e3 : (((w.alloc (.cells #[.int .u64 x] 22)).alloc (.cells #[.int .u64 q] 22)).alloc (.cells (madeCells #[.int .u64 0] n) 22)).heap.size = w.heap.size + 1 + 1 + 1 := by simp
    have b1 := (Bk.new (w.alloc (.cells #[.int .u64 x] 22)) 22 #[.int .u64 q]).alloc (.cells (madeCells #[.int .u64 0] n) 22) |>.alloc (.cells #[.slice (some ⟨w.heap.size + 1 + 1, 0, none⟩) n n] 25)
    have b2 := (Bk.new ((w.alloc (.cells #[.int .u64 x] 22)).alloc (.cells #[.int .u64 q] 22)) 22 (madeCells #[.int .u64 0] n)).alloc (.cells #[.slice (some ⟨w.heap.size + 1 + 1, 0, none⟩) n n] 25)
    have b3 := Boxed.new (((w.alloc (.cells #[.int .u64 x] 22)).alloc (.cells #[.int .u64 q] 22)).alloc (.cells (madeCells #[.int .u64 0] n) 22)) 25 (.slice (some ⟨w.heap.size + 1 + 1, 0, none⟩) n n)
    rw [e1] at b1
    rw [e2] at b2
    rw [e3] at b3
    exact ⟨(((Bk.new w 22 #[.int .u64 x]).alloc _).alloc _).alloc _, b1, b2.of_eq (Array.toList_inj.1 (by rw [toList_madeCells_one]; simp [nums])), b3, (HG2.out.trans (World.grownBy_alloc _ _ none)).trans (World.grownBy_alloc _ _ none), by simp⟩)
  have HCO := Lib.hid (columns_any A1 f.length c1 ((((w.alloc (.cells #[.int .u64 x] 22)).alloc (.cells #[.int .u64 q] 22)).alloc (.cells (madeCells #[.int .u64 0] n) 22)).alloc (.cells #[.slice (some ⟨w.heap.size + 1 + 1, 0, none⟩) n n] 25)))
  obtain ⟨Wm, hWm⟩ : ∃ Wm, ((((w.alloc (.cells #[.int .u64 x] 22)).alloc (.cells #[.int .u64 q] 22)).alloc (.cells (madeCells #[.int .u64 0] n) 22)).alloc (.cells #[.slice (some ⟨w.heap.size + 1 + 1, 0, none⟩) n n] 25)) = Wm := ⟨_, rfl⟩
  rw [hWm] at HBS HCO ⊢
  clear hWm hmk HWI HG2
  refine ⟨trivial, ?_⟩
  refine (callsIn_wide.2 HCO.out).mono ?_
  rintro e W0 ⟨rfl, b1, b2, b3, hg, hsz⟩
  clear HCO
  obtain ⟨k1, k2, k3, k4, k5, k6⟩ := HBS.out
  have bx := k1.grown hg (by simp)
  have bq := k2.grown hg (by simp)
  have bo := k3.grown hg (by simp)
  have bs := k4.kept hg (by simp)
  have hB0 : Below w.heap.size w W0 := below_grown (k5.trans hg)
  rw [k6] at b1 b2 b3 hsz ⊢
  clear k1 k2 k3 k4 k5 k6 hg HBS
  dsimp only
  gi_wp2
  refine wpIn_rangeFunc_goes rfl h1 (gf := 135) (lb := #[.pointer (some ⟨w.heap.size + 1 + 1 + 1 + 1, 0, none⟩), .pointer (some ⟨w.heap.size + 1 + 1 + 1 + 1 + 1 + 1, 0, none⟩)]) rfl trivial (enters_of Tryz.func135 (by kernel_rfl) rfl)
    (columns_goes (n0 - 1) (by omega) _ _ _ _ f X w W0 hB0 b1 b2 b3 HF.out hl1 hl2) Kp3.trans (Kp3.b (by omega) (by omega) (by omega) (by omega)) (Below.refl _ _) (fun _ => rfl)
    (fun pre W => Bk W w.heap.size 22 #[.int .u64 x] ∧ Bk W (w.heap.size + 1) 22 #[.int .u64 q] ∧ Bk W (w.heap.size + 1 + 1) 22 (nums (outArr q x n (pre.map fun e : Colx => (e.j, e.c)))).toArray ∧ Boxed W (w.heap.size + 1 + 1 + 1) 25 (.slice (some ⟨w.heap.size + 1 + 1, 0, none⟩) n n) ∧ Below w.heap.size w W ∧ W0.heap.size ≤ W.heap.size)
    (fun pre X' Y row hs hg hrow => by
      obtain ⟨s1, s2, s3, s4, s5, s6⟩ := hs
      have hr' := fun r e => (hrow r e).2
      have l3 := s3.lt
      have n3 : some (w.heap.size + 1 + 1) ≠ row := fun e => by
        obtain ⟨o, ho, hc⟩ := hr' _ e.symm
        rw [show X'.heap[w.heap.size + 1 + 1]? = _ from s3] at ho
        cases ho
        cases hc
      exact ⟨s1.grown hg (cell_ne (s1.cell 0) hr'), s2.grown hg (cell_ne (s2.cell 0) hr'), s3.grown hg n3, s4.kept hg (boxNe s4 hr'), s5.grown hg s5.size (fun k e => by have := (hrow k e).1; omega), Nat.le_trans s6 hg.size⟩)
    ⟨bx, bq, by simpa [outArr] using bo, bs, hB0, Nat.le_refl _⟩
    (fun e a' W => (Sl encU (fun g => W0.heap.size ≤ g) W e.v e.c ∧ e.j < n) ∧ a' = { tmps := #[.slice A1 f.length c1, .int .u64 x, .int .u64 q, undef, .pointer (some ⟨w.heap.size, 0, none⟩), .pointer (some ⟨w.heap.size + 1, 0, none⟩), .slice none 0 0, .pointer (some ⟨w.heap.size + 1 + 1 + 1, 0, none⟩), .int .i64 e.j, e.v, .slice A1 f.length c1, .int .i64 n, .slice (some ⟨w.heap.size + 1 + 1, 0, none⟩) n n, .slice A1 f.length c1, .func (.func 135) #[] #[.pointer (some ⟨w.heap.size + 1 + 1 + 1 + 1, 0, none⟩), .pointer (some ⟨w.heap.size + 1 + 1 + 1 + 1 + 1 + 1, 0, none⟩)], .int .i64 e.j, e.v, undef, undef, undef, undef, undef, undef, undef, undef], defers := [] })
    (fun e a' _ X' Y row hs hg hrow => ⟨⟨hs.1.1.keepc hg (fun r e => (hrow r e).2), hs.1.2⟩, hs.2⟩)
    ?assign ?body ?done
  case assign =>
    rintro l pre e W K hi hfx hK
    have hfx2 : e.j < n := by have := hfx.2; rwa [← HN.out] at this
    have hfx1 := hfx.1
    have hk2 := hK _ W (KeepsFrom.refl _ _) (Kp3.refl _ _ _ _ _) hi ⟨⟨hfx1, hfx2⟩, rfl⟩
    clear hK hi hfx
    gi_wp2
    exact hk2
  case body =>
    rintro l pre ⟨j, vc, lc⟩ a' W hl ⟨hbx, hbq, hbo, hbs, hbl, hws⟩ ⟨⟨hsl, hjn⟩, rfl⟩ hlt
    have hsl : Sl encU (fun g => W0.heap.size ≤ g) W vc lc := hsl
    have hjn : j < n := hjn
    obtain ⟨Ac, cc, rfl, _, _⟩ := hsl.form
    have hj0 : (0 : Int) ≤ (j : Int) := by omega
    have hjI : (j : Int) < (n : Int) := by omega
    have HBX : Hid (Boxed W.drew (w.heap.size + 1 + 1 + 1) 25 (.slice (some ⟨w.heap.size + 1 + 1, 0, none⟩) n n)) := Lib.hid hbs
    have HBx : Hid (Bk W.drew w.heap.size 22 #[.int .u64 x]) := Lib.hid (hbx.drewN 1)
    have HBq : Hid (Bk W.drew (w.heap.size + 1) 22 #[.int .u64 q]) := Lib.hid (hbq.drewN 1)
    have HBO : Hid (Bk W.drew (w.heap.size + 1 + 1) 22 (nums (outArr q x n (pre.map fun e : Colx => (e.j, e.c)))).toArray) := Lib.hid (hbo.drewN 1)
    have HEV : Hid (∀ w', W.drew.grownBy w' none → Calls Tryz.prog 32 #[.slice Ac lc.length cc, .int .u64 x, .int .u64 q] w' fun e w'' => e = .returned (.int .u64 (evalI q lc x)) ∧ w'.grownBy w'' none) := Lib.hid (fun w' hw => eval_any _ lc x q _ w' (hsl.kept ((grown_drewN' W 1).trans hw)) HX.out)
    have HBL := Lib.hid hbl
    have HLL : Hid ((outArr q x n (pre.map fun e : Colx => (e.j, e.c))).length = n) := Lib.hid (outArr_length _ _ _ _)
    have HSN : Hid (outArr q x n ((pre ++ [(⟨j, .slice Ac lc.length cc, lc⟩ : Colx)]).map fun e : Colx => (e.j, e.c)) = (outArr q x n (pre.map fun e : Colx => (e.j, e.c))).set j (evalI q lc x)) := Lib.hid (by rw [List.map_append]; exact outArr_snoc _ _ _ _ _)
    have HWL : Hid (w.heap.size + 1 + 1 + 1 + 1 + 1 + 1 + 1 = W0.heap.size ∧ W0.heap.size ≤ W.heap.size) := Lib.hid ⟨by rw [hsz], hws⟩
    have HWW : Hid (w.heap.size + 1 + 1 + 1 + 1 + 1 + 1 < W.heap.size) := Lib.hid (by omega)
    obtain ⟨H0, hH0⟩ : ∃ H0, H0 = outArr q x n (pre.map fun e : Colx => (e.j, e.c)) := ⟨_, rfl⟩
    rw [← hH0] at HBO HLL HSN
    obtain ⟨ev, hev⟩ : ∃ ev, ev = evalI q lc x := ⟨_, rfl⟩
    have HEVE := Lib.hid hev
    clear hbx hbq hbo hbs hbl hsl hlt hH0 hev
    dsimp only
    gi_wp2
    refine wpIn_round_any (l0 := l) (R := fun _ W5 => KeepsFrom W0.heap.size W W5 ∧ Kp3 w.heap.size (w.heap.size + 1 + 1 + 1 + 1) (w.heap.size + 1 + 1 + 1 + 1 + 1) (w.heap.size + 1 + 1 + 1 + 1 + 1 + 1) W W5 ∧ Bk W5 w.heap.size 22 #[.int .u64 x] ∧ Bk W5 (w.heap.size + 1) 22 #[.int .u64 q] ∧ Bk W5 (w.heap.size + 1 + 1) 22 (nums (outArr q x n ((pre ++ [(⟨j, .slice Ac lc.length cc, lc⟩ : Colx)]).map fun e : Colx => (e.j, e.c)))).toArray ∧ Boxed W5 (w.heap.size + 1 + 1 + 1) 25 (.slice (some ⟨w.heap.size + 1 + 1, 0, none⟩) n n) ∧ Below w.heap.size w W5 ∧ W0.heap.size ≤ W5.heap.size) (by kernel_rfl) (by kernel_rfl) (fun a w h => ⟨rfl, h⟩) ?_
    refine wpAny_monoR 7 (by kernel_rfl) ?_
    -- op 0 (slot 17): load
    refine MonoR.step (Pv.eq (.slice (some ⟨w.heap.size + 1 + 1, 0, none⟩) n n)) [] (by kernel_rfl) (fun w' hw' => ?_) ?_
    · refine ask_do rfl fun K hK => ?_
      have hb7 := (HBX.out.kept hw' (by simp)).cell
      have hb4 := (HBx.out.grown hw' (by simp)).cell 0
      have hb5 := (HBq.out.grown hw' (by simp)).cell 0
      simp at hb4 hb5
      go_simp
      exact hK _ _ rfl rfl (World.grownBy.refl _ none)
    -- op 1 (slot 18): move
    refine MonoR.step (Pv.eq (.int .i64 (j : Int))) [] (by kernel_rfl) (fun w' hw' => ?_) ?_
    · refine ask_do rfl fun K hK => ?_
      go_simp
      exact hK _ _ rfl rfl (World.grownBy.refl _ none)
    -- op 2 (slot 19): move
    refine MonoR.step (Pv.eq (.slice Ac lc.length cc)) [] (by kernel_rfl) (fun w' hw' => ?_) ?_
    · refine ask_do rfl fun K hK => ?_
      go_simp
      exact hK _ _ rfl rfl (World.grownBy.refl _ none)
    -- op 3 (slot 20): load
    refine MonoR.step (Pv.eq (.int .u64 x)) [] (by kernel_rfl) (fun w' hw' => ?_) ?_
    · refine ask_do rfl fun K hK => ?_
      have hb7 := (HBX.out.kept hw' (by simp)).cell
      have hb4 := (HBx.out.grown hw' (by simp)).cell 0
      have hb5 := (HBq.out.grown hw' (by simp)).cell 0
      simp at hb4 hb5
      go_simp
      exact hK _ _ rfl rfl (World.grownBy.refl _ none)
    -- op 4 (slot 21): load
    refine MonoR.step (Pv.eq (.int .u64 q)) [] (by kernel_rfl) (fun w' hw' => ?_) ?_
    · refine ask_do rfl fun K hK => ?_
      have hb7 := (HBX.out.kept hw' (by simp)).cell
      have hb4 := (HBx.out.grown hw' (by simp)).cell 0
      have hb5 := (HBq.out.grown hw' (by simp)).cell 0
      simp at hb4 hb5
      go_simp
      exact hK _ _ rfl rfl (World.grownBy.refl _ none)
    -- op 5 (slot 22): call
    refine MonoR.step (Pv.eq (.int .u64 (evalI q lc x))) [(2, 19), (3, 20), (4, 21)] (by kernel_rfl) (fun w' hw' => ?_) ?_
    · rintro _ rfl
      rintro _ rfl
      rintro _ rfl
      refine ask_do rfl fun K hK => ?_
      go_simp
      refine (HEV.out w' hw').mono ?_
      rintro e w3 ⟨rfl, hg⟩
      exact hK _ _ rfl rfl hg
    -- op 6 (slot 23): indexAddr
    refine MonoR.step (Pv.eq (.pointer (some ⟨w.heap.size + 1 + 1, j, none⟩))) [(0, 17), (1, 18)] (by kernel_rfl) (fun w' hw' => ?_) ?_
    · rintro _ rfl
      rintro _ rfl
      refine ask_do rfl fun K hK => ?_
      go_simp
      exact hK _ _ rfl rfl (World.grownBy.refl _ none)
    intro w3 hw3
    iterate 5 (intro _ _)
    rintro _ rfl
    rintro _ rfl
    have hbo3 := HBO.out.grown hw3 (by simp)
    have hcl : w3.cell? ⟨w.heap.size + 1 + 1, j, none⟩ = some (.int .u64 (H0[j]'(by rw [HLL.out]; exact hjn))) := by rw [hbo3.cell j]; simp [nums, HLL.out, hjn]
    have hfr := hbo3.free j
    have hgd : W.grownBy w3 none := (grown_drewN' W 1).trans hw3
    have hbo5 := (hbo3.set j (.int .u64 ev)).of_eq (cs' := (nums (H0.set j ev)).toArray) (by simp [nums, List.map_set])
    have hbx5 := (HBx.out.grown hw3 (by simp)).far (p := ⟨w.heap.size + 1 + 1, j, none⟩) (by simp; omega) (.int .u64 ev)
    have hbq5 := (HBq.out.grown hw3 (by simp)).far (p := ⟨w.heap.size + 1 + 1, j, none⟩) (by simp) (.int .u64 ev)
    have hbs5 := Bk.far (HBX.out.kept hw3 (by simp)) (p := ⟨w.heap.size + 1 + 1, j, none⟩) (by simp) (.int .u64 ev)
    have hkf : KeepsFrom W0.heap.size W (w3.setCell ⟨w.heap.size + 1 + 1, j, none⟩ (.int .u64 ev)) := ((keeps_none hgd).trans (KeepsOthers.setCell _ _ _)).from _
    have hWS : w.heap.size + 1 + 1 + 1 + 1 + 1 + 1 < W.heap.size := HWW.out
    have hkp : Kp3 w.heap.size (w.heap.size + 1 + 1 + 1 + 1) (w.heap.size + 1 + 1 + 1 + 1 + 1) (w.heap.size + 1 + 1 + 1 + 1 + 1 + 1) W (w3.setCell ⟨w.heap.size + 1 + 1, j, none⟩ (.int .u64 ev)) :=
      (Kp3.grown hgd (by omega) (by omega) (by omega) hWS).trans ⟨(Below.refl _ w3).setCell (p := ⟨w.heap.size + 1 + 1, j, none⟩) (by simp; omega) _, Below.heap_setCell w3 _ _ _ (by simp; omega), Below.heap_setCell w3 _ _ _ (by simp; omega), Below.heap_setCell w3 _ _ _ (by simp; omega)⟩
    have hbl5 : Below w.heap.size w (w3.setCell ⟨w.heap.size + 1 + 1, j, none⟩ (.int .u64 ev)) := (HBL.out.trans ((below_grown hgd).mono (by omega))).setCell (p := ⟨w.heap.size + 1 + 1, j, none⟩) (by simp; omega) _
    rw [HSN.out, ← HEVE.out]
    have FIN := Lib.hid (And.intro hkf (And.intro hkp (And.intro hbx5 (And.intro hbq5 (And.intro hbo5 (And.intro hbs5 (And.intro hbl5 (show W0.heap.size ≤ (w3.setCell ⟨w.heap.size + 1 + 1, j, none⟩ (.int .u64 ev)).heap.size by have := hgd.size; have := HWL.out.2; simp; omega))))))))
    clear hbo3 hgd hbo5 hbx5 hbq5 hbs5 hkf hkp hbl5 hw3
    rw [HEVE.out] at FIN
    rw [HEVE.out]
    refine wpList_plain rfl fun K hK => ?_
    go_simp
    refine hK _ _ (wpList_nil ?_)
    exact ⟨rfl, FIN.out⟩
  case done =>
    rintro D zs W hD hzs ⟨hbx, hbq, hbo, hbs, hbl, _⟩ hK
    have hcs := hbs.cell
    rw [hzs, HN.out, outArr_all] at hbo
    have hlen : (rowI q f x).length = n := by simp [rowI, HN.out]
    have HR : Hid (Sl encU (fun g => w.heap.size ≤ g) (W.putObj D (.deferred none)) (.slice (some ⟨w.heap.size + 1 + 1, 0, none⟩) n n) (rowI q f x) ∧ w.grownBy (W.putObj D (.deferred none)) none) := Lib.hid ⟨by
      have hb2 := hbo.grown (grownBy_putObj' W D (.deferred none)) (fun e => by injection e with e; omega)
      have := Sl.block (E := encU) (X := fun g => w.heap.size ≤ g) (xs := rowI q f x) (c := n) hb2 (by omega) ((nums (rowI q f x)).map fun v => [v]) (by simp [nums]) (fun i hi hi' => ⟨by simp [nums], by simp only [rowI, List.getElem_map]; exact evalI_U64 _ _ _⟩) (by rw [flatten_singles]) (by rw [hlen]; exact Nat.le_refl _) (by omega)
      rwa [hlen] at this, grown_of_below (hbl.trans (belowK_b (w := w) (Nat.le_refl _) W D _ _ (by omega) hK rfl rfl))⟩
    clear hbo hbx hbq hbs hbl
    gi_wp2
    refine ⟨by simp, .inl ⟨_, _, rfl, run_takeDeferred hK, ?_⟩⟩
    refine ⟨_, results_tmp rfl _ _ _, .slice (some ⟨w.heap.size + 1 + 1, 0, none⟩) n n, rfl, HR.out.1, HR.out.2⟩
end Go.Proofs.YtphbcfpiklmmeaaGreatDoor

namespace Go.Proofs.YtphbcfpiklmmeaaGreatDoor
open Go Go.RowKit

def colArr (q y : Int) (f : List (List Int)) (j : Nat) : List Int := (f.take j).map (fun c => evalI q c y) ++ List.replicate (f.length - j) 0
theorem colArr_length (q y : Int) (f : List (List Int)) (j : Nat) (h : j ≤ f.length) : (colArr q y f j).length = f.length := by simp [colArr]; omega
theorem colArr_set (q y : Int) (f : List (List Int)) (j : Nat) (h : j < f.length) : (colArr q y f j).set j (evalI q f[j] y) = colArr q y f (j + 1) := by
  refine List.ext_getElem (by rw [List.length_set, colArr_length _ _ _ _ (by omega), colArr_length _ _ _ _ (by omega)]) fun i h1 h2 => ?_
  rw [colArr_length _ _ _ _ (by omega)] at h2
  rw [List.getElem_set]
  split
  · rename_i e
    subst e
    simp only [colArr]
    rw [List.getElem_append_left (by simp; omega)]
    simp
  · rename_i e
    simp only [colArr]
    by_cases hi : i < j
    · rw [List.getElem_append_left (by simp; omega), List.getElem_append_left (by simp; omega)]
      simp
    · rw [List.getElem_append_right (by simp; omega), List.getElem_append_right (by simp; omega)]
      simp
set_option maxRecDepth 100000 in
set_option maxHeartbeats 1000000 in
theorem col_any (v : Value) (f : List (List Int)) (y q : Int) (X : Nat → Prop) (w : World) (hf : Sl (encS encU) X w v f) (hy : U64 y) (hl1 : f.length ≤ 100000) :
    Calls Tryz.prog 43 #[v, .int .u64 y, .int .u64 q] w (Gives encU (fun g => w.heap.size ≤ g) w (colV q f y)) := by
  have HF := Lib.hid hf
  have HY := Lib.hid hy
  obtain ⟨A, c, rfl, hc1, hc2⟩ := hf.form
  clear hf hy
  have hmk := run_make_row' (P := Tryz.prog) 25 22 (.int .u64 0) 8 Tryz.underlying25 info_u64 rfl .i64 .i64 f.length (by omega) (by omega)
  have HST : Hid (Bk (w.alloc (.cells (madeCells #[.int .u64 0] f.length) 22)) w.heap.size 22 (nums (colArr q y f 0)).toArray ∧ w.grownBy (w.alloc (.cells (madeCells #[.int .u64 0] f.length) 22)) none) := Lib.hid ⟨(Bk.new w 22 (madeCells #[.int .u64 0] f.length)).of_eq (Array.toList_inj.1 (by rw [toList_madeCells_one]; simp [nums, colArr])), World.grownBy_alloc w _ none⟩
  go_enter Tryz.func43, Tryz.ntmps43
  go_wp2_with fail
  go_loopg [15] f.length (fun g s15 wx => ∃ j : Nat, j + g = f.length ∧ s15 = .int .i64 j ∧ Hid (Bk wx w.heap.size 22 (nums (colArr q y f j)).toArray ∧ w.grownBy wx none))
  case atStart => exact ⟨0, by omega, rfl, HST⟩
  case round =>
    obtain ⟨j, hj, rfl, HX⟩ := hrel
    cases gk with
    | zero =>
      obtain rfl : j = f.length := by omega
      have HR : Hid (Sl encU (fun g => w.heap.size ≤ g) wr (.slice (some ⟨w.heap.size, 0, none⟩) f.length f.length) (colV q f y) ∧ w.grownBy wr none) := Lib.hid ⟨by
        have h1 := HX.out.1
        rw [show colArr q y f f.length = colV q f y by simp [colArr, colV]] at h1
        have := Sl.block (E := encU) (X := fun g => w.heap.size ≤ g) (xs := colV q f y) (c := f.length) h1 (Nat.le_refl _) ((nums (colV q f y)).map fun v => [v]) (by simp [nums]) (fun i hi hi' => ⟨by simp [nums], by simp only [colV, List.getElem_map]; exact evalI_U64 _ _ _⟩) (by rw [flatten_singles]) (by simp [colV]) (by omega)
        rwa [show (colV q f y).length = f.length by simp [colV]] at this, HX.out.2⟩
      clear HX HST hmk
      go_wp2
      go_ret
      exact ⟨_, rfl, HR.out.1, HR.out.2⟩
    | succ m =>
      have hjn : (j : Int) < (f.length : Int) := by omega
      have hjN : j < f.length := by omega
      have hj0 : (0 : Int) ≤ (j : Int) := by omega
      obtain ⟨g, o, c', u, e, _, _, hcu, hsu⟩ := (HF.out.kept HX.out.2).atS hjN
      injection e with e1 e2 e3
      subst e1 e3
      obtain ⟨A1, c1, e1, _, _⟩ := hsu.form
      subst e1
      have HEV := Lib.hid (eval_any _ f[j] y q _ wr hsu HY.out)
      have HSN := Lib.hid (colArr_set q y f j hjN)
      have HLL := Lib.hid (colArr_length q y f j (by omega))
      have HB := Lib.hid HX.out.1
      have HG := Lib.hid HX.out.2
      clear hsu e2 HX HST hmk
      generalize colArr q y f j = H0 at *
      generalize f[j] = L at *
      generalize L.length = n1 at *
      go_wp2_with fail
      refine HEV.out.mono ?_
      rintro e w1 ⟨rfl, hg1⟩
      have hb1 := HB.out.grown hg1 (by simp)
      have hcl : w1.cell? ⟨w.heap.size, j, none⟩ = some (.int .u64 (H0[j]'(by rw [HLL.out]; exact hjN))) := by rw [hb1.cell j]; simp [nums, HLL.out, hjN]
      have hfr := hb1.free j
      have HFIN : Hid (Bk (w1.setCell ⟨w.heap.size, j, none⟩ (.int .u64 (evalI q L y))) w.heap.size 22 (nums (colArr q y f (j + 1))).toArray ∧ w.grownBy (w1.setCell ⟨w.heap.size, j, none⟩ (.int .u64 (evalI q L y))) none) := Lib.hid ⟨(hb1.set j _).of_eq (by rw [← HSN.out]; simp [nums, List.map_set]), grown_up (HG.out.trans hg1) (grownBy_set (World.grownBy.refl _ (some w.heap.size)) j _) (fun g e => by injection e with e; omega)⟩
      clear hg1 hb1
      go_wp2_with fail
      go_roundg m
      case measure => omega
      case rel => exact ⟨j + 1, by omega, by go_num, HFIN⟩
end Go.Proofs.YtphbcfpiklmmeaaGreatDoor

namespace Go.Proofs.YtphbcfpiklmmeaaGreatDoor
open Go Go.RowKit Go.Shelf

theorem info_pairs2 : (Tryz.prog.info? 31).map (fun i => (i.zero, i.size, i.bytes)) = some (some (.slice none 0 0), 1, 24) := by kernel_rfl
theorem el_pairs2 : ElemOk Tryz.prog 43 31 1 24 := ElemOk.mk' (by decide) Tryz.underlying43 info_pairs2 rfl
/-- A polynomial of two that is drawn. -/
def twoL (x q : Int) (dr : Nat → Int) (t k : Nat) : List (List Int) := chk t (behI x q dr (t * t - 1) k) t
def makeF (l : List (Int × Int)) (q : Int) (dr : Nat → Int) (t k s : Nat) : List (List Int) := twoL (l[s]?.getD (0, 0)).1 q dr t (k + s * (2 * (t * t - 1)))
def makeB (l : List (Int × Int)) (q : Int) (dr : Nat → Int) (t k s : Nat) : List (List Int) := twoL (l[s]?.getD (0, 0)).2 q dr t (k + s * (2 * (t * t - 1)) + (t * t - 1))
def makeFs (l : List (Int × Int)) (q : Int) (dr : Nat → Int) (t k n : Nat) : List (List (List Int)) := (List.range n).map (makeF l q dr t k)
def makeBs (l : List (Int × Int)) (q : Int) (dr : Nat → Int) (t k n : Nat) : List (List (List Int)) := (List.range n).map (makeB l q dr t k)
theorem hsnoc {α : Type} (f : Nat → α) (n : Nat) : (List.range (n + 1)).map f = (List.range n).map f ++ [f n] := by simp [List.range_succ]
/-- What member j gets of each secret. -/
def rowP (q : Int) (F B : List (List (List Int))) (t : Nat) (j : Int) (s : Nat) : List (Int × Int) := zipP (rowI q (F[s]?.getD []) j) (rowI q (B[s]?.getD []) j) t
def colP (q : Int) (F B : List (List (List Int))) (t : Nat) (j : Int) (s : Nat) : List (Int × Int) := zipP (colV q (F[s]?.getD []) j) (colV q (B[s]?.getD []) j) t
def rowsP (q : Int) (F B : List (List (List Int))) (t : Nat) (j : Int) : List (List (Int × Int)) := (List.range F.length).map (rowP q F B t j)
def colsP (q : Int) (F B : List (List (List Int))) (t : Nat) (j : Int) : List (List (Int × Int)) := (List.range F.length).map (colP q F B t j)
/-- A square. -/
def SqL (t : Nat) (M : List (List Int)) : Prop := M.length = t ∧ ∀ c ∈ M, c.length = t
theorem twoL_sq (x q : Int) (dr : Nat → Int) (t k : Nat) (ht : 1 ≤ t) : SqL t (twoL x q dr t k) := by
  refine ⟨chk_length _ _ _, fun c hc => ?_⟩
  obtain ⟨i, hi, rfl⟩ := List.mem_map.1 hc
  have hi2 : i < t := List.mem_range.1 hi
  have h1 : (i + 1) * t ≤ t * t := Nat.mul_le_mul_right _ hi2
  have h2 : 1 * 1 ≤ t * t := Nat.mul_le_mul ht ht
  rw [Nat.add_mul, Nat.one_mul] at h1
  rw [List.length_take, List.length_drop, behI_len]
  omega
theorem makeFs_sq (l : List (Int × Int)) (q : Int) (dr : Nat → Int) (t k n : Nat) (ht : 1 ≤ t) : ∀ M ∈ makeFs l q dr t k n, SqL t M := fun M hM => by
  obtain ⟨i, _, rfl⟩ := List.mem_map.1 hM
  exact twoL_sq _ _ _ _ _ ht
theorem makeBs_sq (l : List (Int × Int)) (q : Int) (dr : Nat → Int) (t k n : Nat) (ht : 1 ≤ t) : ∀ M ∈ makeBs l q dr t k n, SqL t M := fun M hM => by
  obtain ⟨i, _, rfl⟩ := List.mem_map.1 hM
  exact twoL_sq _ _ _ _ _ ht
theorem foldl_same (t : Nat) : ∀ (M : List (List Int)) (n : Nat), (∀ c ∈ M, c.length = t) → M.foldl (fun n c => max n c.length) n = if M = [] then n else max n t
  | [], n, _ => rfl
  | c :: M, n, h => by
    rw [List.foldl_cons, foldl_same t M _ (fun c hc => h c (List.mem_cons_of_mem _ hc)), h c List.mem_cons_self]
    split <;> simp
theorem wide_sqL {t : Nat} {M : List (List Int)} (h : SqL t M) : wideI M = t := by
  unfold wideI
  rw [foldl_same t M 0 h.2]
  obtain ⟨h1, _⟩ := h
  split
  · rename_i e
    rw [e] at h1
    exact h1
  · omega
theorem rowI_sqL {t : Nat} {M : List (List Int)} (h : SqL t M) (q x : Int) : (rowI q M x).length = t := by simp [rowI, wide_sqL h]
theorem colV_sqL {t : Nat} {M : List (List Int)} (h : SqL t M) (q x : Int) : (colV q M x).length = t := by simp [colV, h.1]
/-- The worlds while two lists of a struct are appended to, one behind the other. -/
def twLt {α : Type} (E : Enc α) (ty tE : TypeId) (w4 : World) (Bd lo hi : Nat) (cs : Array Value) (vW vB vy vz : Value) (xs ys : List α) (y z : α) : Lt where
  C vs w := w4.grownBy w (some Bd) ∧ Bk w Bd ty cs ∧ hi ≤ w.heap.size ∧ E.rep (fun g => lo ≤ g ∧ g < hi) w [vy] y ∧ E.rep (fun g => lo ≤ g ∧ g < hi) w [vz] z ∧ match vs with
    | [] => Side E E w4.heap.size tE tE (fun g => w4.heap.size ≤ g) w vW vB xs ys
    | [u] => Side E E w4.heap.size tE tE (fun g => w4.heap.size ≤ g) w u vB (xs ++ [y]) ys ∧ ∀ g, u.ownBlock = some g → g < lo ∨ hi ≤ g
    | [u, u2] => Side E E w4.heap.size tE tE (fun g => w4.heap.size ≤ g) w u u2 (xs ++ [y]) (ys ++ [z])
    | _ => False
  R q w w' := w.grownBy w' (if q = 0 then vW.ownBlock else vB.ownBlock)
  g := fun {vs w w'} h hg => by
    obtain ⟨h1, h2, h3, h4, h5, h6⟩ := h
    refine ⟨h1.trans (hg.but _), h2.grown hg (by simp), Nat.le_trans h3 hg.size, E.keep h4 hg (by simp), E.keep h5 hg (by simp), ?_⟩
    match vs, h6 with
    | [], h6 => exact h6.kept hg
    | [u], h6 => exact ⟨h6.1.kept hg, h6.2⟩
    | [u, u2], h6 => exact h6.kept hg
def twQ {α : Type} {E : Enc α} {ty tE : TypeId} {w4 : World} {Bd lo hi : Nat} {cs : Array Value} {vW vB vy vz : Value} {xs ys : List α} {y z : α} (hW : ∀ g, vW.ownBlock = some g → g < lo) (hB : ∀ g, vB.ownBlock = some g → g < lo) (t : TypeId) (u : Value) : Qv (twLt E ty tE w4 Bd lo hi cs vW vB vy vz xs ys y z) where
  p _ v w := BlkQ lo t u v w
  fr := 0
  st := fun ⟨b, e, hb, hk⟩ hg => ⟨b, e, hb, hk.grown hg (by simp)⟩
  sr := fun {vs _ v w w'} _ _ hR ⟨b, e, hb, hk⟩ => by
    refine ⟨b, e, hb, hk.grown hR fun e => ?_⟩
    split at e
    · have := hW b e.symm; omega
    · have := hB b e.symm; omega
section
variable {α : Type} {E : Enc α} {ty tE : TypeId} {w4 w' w3 : World} {Bd lo hi : Nat} {cs : Array Value} {vW vB vy vz u v3 : Value} {xs ys : List α} {y z : α}
theorem twLt_one (hC : (twLt E ty tE w4 Bd lo hi cs vW vB vy vz xs ys y z).C [] w') (ha : Acc E w4.heap.size tE (fun g => w4.heap.size ≤ g ∧ some g ≠ vB.ownBlock) w3 v3 (xs ++ [y])) (hgr : w'.grownBy w3 vW.ownBlock) (hm : Moved w' vW v3) (hW : ∀ g, vW.ownBlock = some g → g < lo) (hd : Bd < w4.heap.size) : (twLt E ty tE w4 Bd lo hi cs vW vB vy vz xs ys y z).C [v3] w3 := by
  obtain ⟨h1, h2, h3, h4, h5, h6⟩ := hC
  have hS : Side E E w4.heap.size tE tE (fun g => w4.heap.size ≤ g) w' vW vB xs ys := h6
  refine ⟨h1.andThen hgr (fun j e => .inl (hS.fst.lt j e).1), h2.grown hgr (fun e => by have := (hS.fst.lt _ e.symm).1; omega), Nat.le_trans h3 hgr.size, E.keep h4 hgr (fun g hg e => by have := hW g e.symm; omega), E.keep h5 hgr (fun g hg e => by have := hW g e.symm; omega), hS.one ha hgr hm, fun g e => ?_⟩
  rcases hm with h | ⟨n, hn, h⟩
  · exact .inl (hW g (h ▸ e))
  · rw [h] at e
    injection e with e
    exact .inr (by omega)
theorem twLt_two (hC : (twLt E ty tE w4 Bd lo hi cs vW vB vy vz xs ys y z).C [u] w') (ha : Acc E w4.heap.size tE (fun g => w4.heap.size ≤ g ∧ some g ≠ u.ownBlock) w3 v3 (ys ++ [z])) (hgr : w'.grownBy w3 vB.ownBlock) (hm : Moved w' vB v3) (hB : ∀ g, vB.ownBlock = some g → g < lo) (hd : Bd < w4.heap.size) : (twLt E ty tE w4 Bd lo hi cs vW vB vy vz xs ys y z).C [u, v3] w3 := by
  obtain ⟨h1, h2, h3, h4, h5, h6⟩ := hC
  have hS : Side E E w4.heap.size tE tE (fun g => w4.heap.size ≤ g) w' u vB (xs ++ [y]) ys := h6.1
  exact ⟨h1.andThen hgr (fun j e => .inl (hS.snd.lt j e).1), h2.grown hgr (fun e => by have := (hS.snd.lt _ e.symm).1; omega), Nat.le_trans h3 hgr.size, E.keep h4 hgr (fun g hg e => by have := hB g e.symm; omega), E.keep h5 hgr (fun g hg e => by have := hB g e.symm; omega), hS.two ha hgr hm⟩
theorem twLt_rep1 (hC : (twLt E ty tE w4 Bd lo hi cs vW vB vy vz xs ys y z).C [] w') (hW : ∀ g, vW.ownBlock = some g → g < lo) (hB : ∀ g, vB.ownBlock = some g → g < lo) (hl : w4.heap.size ≤ lo) : E.rep (fun g => (w4.heap.size ≤ g ∧ some g ≠ vB.ownBlock) ∧ some g ≠ vW.ownBlock) w' [vy] y :=
  E.more hC.2.2.2.1 fun g _ hg => ⟨⟨by omega, fun e => by have := hB g e.symm; omega⟩, fun e => by have := hW g e.symm; omega⟩
theorem twLt_rep2 (hC : (twLt E ty tE w4 Bd lo hi cs vW vB vy vz xs ys y z).C [u] w') (hB : ∀ g, vB.ownBlock = some g → g < lo) (hl : w4.heap.size ≤ lo) : E.rep (fun g => (w4.heap.size ≤ g ∧ some g ≠ u.ownBlock) ∧ some g ≠ vB.ownBlock) w' [vz] z :=
  E.more hC.2.2.2.2.1 fun g _ hg => ⟨⟨by omega, fun e => by have := hC.2.2.2.2.2.2 g e.symm; omega⟩, fun e => by have := hB g e.symm; omega⟩
theorem twLt_end {t' : TypeId} {a : Value} {u2 : Value} (hC : (twLt E t' tE w4 Bd lo hi #[a, vW, vB] vW vB vy vz xs ys y z).C [u, u2] w') (hd : Bd < w4.heap.size) : Bk ((w'.setCell ⟨Bd, 1, none⟩ u).setCell ⟨Bd, 2, none⟩ u2) Bd t' #[a, u, u2] ∧ Side E E w4.heap.size tE tE (fun g => w4.heap.size ≤ g) ((w'.setCell ⟨Bd, 1, none⟩ u).setCell ⟨Bd, 2, none⟩ u2) u u2 (xs ++ [y]) (ys ++ [z]) ∧ w4.grownBy ((w'.setCell ⟨Bd, 1, none⟩ u).setCell ⟨Bd, 2, none⟩ u2) (some Bd) := by
  obtain ⟨h1, h2, _, _, _, h6⟩ := hC
  have hS : Side E E w4.heap.size tE tE (fun g => w4.heap.size ≤ g) w' u u2 (xs ++ [y]) (ys ++ [z]) := h6
  exact ⟨(h2.set 1 u).set 2 u2, (hS.keep (grownSet w' Bd 1 u) (fun g hg e => by injection e with e; omega)).keep (grownSet _ Bd 2 u2) (fun g hg e => by injection e with e; omega), (h1.andThen (grownSet w' Bd 1 u) (fun j e => .inr e)).andThen (grownSet _ Bd 2 u2) (fun j e => .inr e)⟩
end
/-- A slice of one list of pairs, made since N. -/
def blkP (N : Nat) (yr : List (Int × Int)) : Pv := ⟨fun v W => ∃ A n c b, v = .slice (some ⟨b, 0, none⟩) 1 1 ∧ Bk W b 26 #[.slice A n c] ∧ Sl encP (fun g => N ≤ g) W (.slice A n c) yr, fun ⟨A, n, c, b, e, h1, h2⟩ hg => ⟨A, n, c, b, e, h1.grown hg (by simp), h2.kept hg⟩⟩
/-- A list of pairs, made since N. -/
def slP (N : Nat) (yr : List (Int × Int)) : Pv := ⟨fun v W => Sl encP (fun g => N ≤ g) W v yr, fun h hg => h.kept hg⟩
def slU (yr : List Int) : Pv := ⟨fun v W => Sl encU TT W v yr, fun h hg => h.kept hg⟩
theorem results_deal {fn : Func} {W : World} {B8 : Nat} {a b c : Value} (h : fn.results = #[.cell 8 45, .tmp 9]) (tmps : Array Value) (h8 : tmps.getD 8 undef = .pointer (some ⟨B8, 0, none⟩)) (h9 : tmps.getD 9 undef = .int .i64 0) (hb : Bk W B8 45 #[a, b, c]) : (results fn tmps).run Tryz.prog W = .ok (.tuple #[.agg #[a, b, c], .int .i64 0]) W := by
  have r1 := run_loadVar_row (P := Tryz.prog) W B8 45 45 #[a, b, c] (0, 0) _ hb Tryz.underlying45 rfl (by kernel_rfl)
  have h8' : tmps[8]?.getD undef = .pointer (some ⟨B8, 0, none⟩) := by simpa using h8
  have h9' : tmps[9]?.getD undef = .int .i64 0 := by simpa using h9
  simp [results, h, h8', h9', asAddr, r1]
end Go.Proofs.YtphbcfpiklmmeaaGreatDoor

namespace Go.Proofs.YtphbcfpiklmmeaaGreatDoor
open Go.RowKit

def triedL : List Int := [2, 3, 5, 7, 11, 13, 17, 19, 23, 29, 31, 37]
/-- The two tables, where their variables lie. -/
def TabsAt (w : World) : Prop := (∀ j, j < Lib.deBruijn64tab.length → w.cell? ⟨1, j, none⟩ = some (.int .u8 (Lib.deBruijn64tab.getD j 0))) ∧ (∀ j, j < 12 → w.cell? ⟨0, j, none⟩ = some (.int .u64 (triedL.getD j 0)))
theorem TabsAt.drewN {w : World} (h : TabsAt w) (n : Nat) : TabsAt (w.drewN n) := h

set_option maxHeartbeats 400000 in
theorem tz64_core (x k idx : Nat) (w : World) (hx0 : ((x : Int) == 0) = false)
    (key : IntKind.u64.wrap (bits BinOp.and IntKind.u64 (x : Int) (IntKind.u64.wrap (-(x : Int))) * 285870213051353865) / 288230376151711744 = (idx : Int))
    (hi : idx < 64) (hk : k < 64) (hcell : w.cell? ⟨1, idx, none⟩ = some (.int .u8 k)) :
    Calls Tryz.prog 114 #[.int .u64 x] w fun e w' => e = .returned (.int .i64 k) ∧ w' = w := by
  go_enter Tryz.func114, Tryz.ntmps114
  go_wp2_with (simp only [key])
  go_ret
  exact ⟨rfl, rfl⟩

theorem tz64_key (x a : Nat) (hx : x < 18446744073709551616) (hx0 : x ≠ 0) (hlow : x &&& (18446744073709551616 - x) = a) :
    IntKind.u64.wrap (bits BinOp.and IntKind.u64 (x : Int) (IntKind.u64.wrap (-(x : Int))) * 285870213051353865) / 288230376151711744 = ((a * 285870213051353865 % 18446744073709551616 / 288230376151711744 : Nat) : Int) := by
  have e1 : IntKind.u64.wrap (-(x : Int)) = ((18446744073709551616 - x : Nat) : Int) := by rw [IntKind.wrap_u64]; omega
  rw [e1, bits_and_u64_nat x _ hx (by omega), hlow, IntKind.wrap_u64]
  omega

theorem tz64_any (x : Int) (w : World) (h0 : 0 < x) (h1 : x < 18446744073709551616) (hT : TabsAt w) :
    Calls Tryz.prog 114 #[.int .u64 x] w fun e w' => e = .returned (.int .i64 (Lib.ctz 64 x.toNat)) ∧ w' = w := by
  obtain ⟨n, rfl⟩ := Int.eq_ofNat_of_zero_le (show 0 ≤ x by omega)
  rw [Int.toNat_natCast]
  have hx0 : n ≠ 0 := by omega
  have hx : n < 18446744073709551616 := by omega
  obtain ⟨hlow, hk⟩ := Lib.lowest_bit 64 n hx0 hx
  obtain ⟨hi, htab⟩ := Lib.deBruijn64_at _ hk
  have hcell := hT.1 _ hi
  rw [htab] at hcell
  exact tz64_core n _ _ w (by simp; omega) (tz64_key n _ hx hx0 hlow) hi hk hcell

/-- Squares until n - 1 is met. -/
def witB (n : Int) : Nat → Int → Bool
  | 0, _ => false
  | k + 1, x => x == n - 1 || witB n k (mulI x x n)
def passB (n a : Int) (t : Nat) : Bool := powI a ((n - 1) / 2 ^ t) n == 1 || witB n t (powI a ((n - 1) / 2 ^ t) n)
def goB (n : Int) (t : Nat) : List Int → Bool
  | [] => true
  | a :: l => if n % a = 0 then decide (n = a) else if passB n a t then goB n t l else false
def primeB (n : Int) : Bool := if n < 2 ∨ 2305843009213693952 < n then false else goB n (Lib.ctz 64 (n - 1).toNat) triedL

set_option maxHeartbeats 400000 in
theorem prime_out (n : Int) (w : World) (h : n < 2 ∨ 2305843009213693952 < n) :
    Calls Tryz.prog 78 #[.int .u64 n] w fun e w' => e = .returned (.bool false) ∧ ∃ k, w' = w.drewN k := by
  by_cases h2 : n < 2
  · clear h
    have h2' : decide (n < 2) = true := by simpa using h2
    go_enter Tryz.func78, Tryz.ntmps78
    go_wp2
    go_step3
    go_wp2
    (try rw [Exit.noGoto_ret])
    go_ret
    exact ⟨rfl, 0, rfl⟩
  · have h2' : decide (n < 2) = false := by simpa using h2
    have h3 : 2305843009213693952 < n := h.resolve_left h2
    have h3' : decide (2305843009213693952 < n) = true := by simpa using h3
    clear h
    go_enter Tryz.func78, Tryz.ntmps78
    go_wp2
    go_step3
    go_wp2
    (try rw [Exit.noGoto_ret])
    go_ret
    exact ⟨rfl, 0, rfl⟩

theorem powI_U64 (a e m : Int) : U64 (powI a e m) := by
  cases hm : mayB m with
  | false => simp [powI, hm, U64]
  | true =>
    simp only [powI, hm, if_true]
    simp [mayB] at hm
    have := emod_bd (a ^ e.toNat) m hm.1
    unfold U64
    omega
/-- The k-th of the numbers: what it is, and how the walk reads it. -/
theorem tried_at : ∀ k : Nat, k < 12 → ∃ p : Int, triedL.drop k = p :: triedL.drop (k + 1) ∧ 2 ≤ p ∧ p ≤ 37 ∧
    ∀ w, (Instr.index 138 (.agg #[.int .u64 2, .int .u64 3, .int .u64 5, .int .u64 7, .int .u64 11, .int .u64 13, .int .u64 17, .int .u64 19, .int .u64 23, .int .u64 29, .int .u64 31, .int .u64 37]) (.int .i64 k)).run Tryz.prog w = .ok (.int .u64 p) w := by
  intro k hk
  match k, hk with
  | 0, _ => exact ⟨2, rfl, by decide, by decide, fun _ => by kernel_rfl⟩
  | 1, _ => exact ⟨3, rfl, by decide, by decide, fun _ => by kernel_rfl⟩
  | 2, _ => exact ⟨5, rfl, by decide, by decide, fun _ => by kernel_rfl⟩
  | 3, _ => exact ⟨7, rfl, by decide, by decide, fun _ => by kernel_rfl⟩
  | 4, _ => exact ⟨11, rfl, by decide, by decide, fun _ => by kernel_rfl⟩
  | 5, _ => exact ⟨13, rfl, by decide, by decide, fun _ => by kernel_rfl⟩
  | 6, _ => exact ⟨17, rfl, by decide, by decide, fun _ => by kernel_rfl⟩
  | 7, _ => exact ⟨19, rfl, by decide, by decide, fun _ => by kernel_rfl⟩
  | 8, _ => exact ⟨23, rfl, by decide, by decide, fun _ => by kernel_rfl⟩
  | 9, _ => exact ⟨29, rfl, by decide, by decide, fun _ => by kernel_rfl⟩
  | 10, _ => exact ⟨31, rfl, by decide, by decide, fun _ => by kernel_rfl⟩
  | 11, _ => exact ⟨37, rfl, by decide, by decide, fun _ => by kernel_rfl⟩

set_option maxHeartbeats 400000 in
theorem prime_in (n : Int) (w : World) (h2 : 2 ≤ n) (h3 : n ≤ 2305843009213693952) (hT : TabsAt w) :
    Calls Tryz.prog 78 #[.int .u64 n] w fun e w' => e = .returned (.bool (goB n (Lib.ctz 64 (n - 1).toNat) triedL)) ∧ ∃ k, w' = w.drewN k := by
  have h2' : decide (n < 2) = false := by simp; omega
  have h3' : decide (2305843009213693952 < n) = false := by simp; omega
  have HT := Lib.hid hT
  obtain ⟨t, ht⟩ : ∃ t, t = Lib.ctz 64 (n - 1).toNat := ⟨_, rfl⟩
  have ht64 : t < 64 := by rw [ht]; exact (Lib.lowest_bit 64 (n - 1).toNat (by omega) (by omega)).2
  have HZ := Lib.hid (tz64_any (n - 1) w (by omega) (by omega) hT)
  rw [← ht] at HZ ⊢
  clear ht hT
  go_enter Tryz.func78, Tryz.ntmps78
  go_wp2
  go_step3
  go_wp2_with fail
  refine HZ.out.mono ?_
  rintro e w' ⟨rfl, hw'⟩
  rw [hw']
  clear hw'
  go_wp2_with fail
  go_step3
  have k0 : w.cell? ⟨0, 0, none⟩ = some (.int .u64 2) := HT.out.2 0 (by decide)
  have k1 : w.cell? ⟨0, 1, none⟩ = some (.int .u64 3) := HT.out.2 1 (by decide)
  have k2 : w.cell? ⟨0, 2, none⟩ = some (.int .u64 5) := HT.out.2 2 (by decide)
  have k3 : w.cell? ⟨0, 3, none⟩ = some (.int .u64 7) := HT.out.2 3 (by decide)
  have k4 : w.cell? ⟨0, 4, none⟩ = some (.int .u64 11) := HT.out.2 4 (by decide)
  have k5 : w.cell? ⟨0, 5, none⟩ = some (.int .u64 13) := HT.out.2 5 (by decide)
  have k6 : w.cell? ⟨0, 6, none⟩ = some (.int .u64 17) := HT.out.2 6 (by decide)
  have k7 : w.cell? ⟨0, 7, none⟩ = some (.int .u64 19) := HT.out.2 7 (by decide)
  have k8 : w.cell? ⟨0, 8, none⟩ = some (.int .u64 23) := HT.out.2 8 (by decide)
  have k9 : w.cell? ⟨0, 9, none⟩ = some (.int .u64 29) := HT.out.2 9 (by decide)
  have k10 : w.cell? ⟨0, 10, none⟩ = some (.int .u64 31) := HT.out.2 10 (by decide)
  have k11 : w.cell? ⟨0, 11, none⟩ = some (.int .u64 37) := HT.out.2 11 (by decide)
  go_wp2_with fail
  clear k0 k1 k2 k3 k4 k5 k6 k7 k8 k9 k10 k11
  go_loopg [17] 12 (fun g s17 wx => ∃ k : Nat, k + g = 12 ∧ s17 = .int .i64 k ∧ Hid (goB n t (triedL.drop k) = goB n t triedL) ∧ ∃ q, wx = w.drewN q)
  case atStart => exact ⟨0, rfl, rfl, Lib.hid rfl, 0, rfl⟩
  case round =>
    obtain ⟨k, hkg, rfl, HG, q, rfl⟩ := hrel
    cases gk with
    | zero =>
      obtain rfl : k = 12 := by omega
      have HE : Hid (true = goB n t triedL) := Lib.hid HG.out
      go_wp2
      (try rw [Exit.noGoto_ret])
      go_ret
      exact ⟨congrArg Ending.returned (congrArg Value.bool HE.out), _, rfl⟩
    | succ g =>
      have hk : k < 12 := by omega
      obtain ⟨p, hd, hp2, hp37, hidx⟩ := tried_at k hk
      have HG2 : Hid (goB n t (p :: triedL.drop (k + 1)) = goB n t triedL) := Lib.hid (by rw [← hd]; exact HG.out)
      clear HG hd
      by_cases hdv : n % p = 0
      · have HE : Hid ((n == p) = goB n t triedL) := Lib.hid (by rw [← HG2.out]; simp only [goB, hdv, if_true]; rfl)
        go_wp2
        (try rw [Exit.noGoto_ret])
        go_ret
        exact ⟨congrArg Ending.returned (congrArg Value.bool HE.out), _, rfl⟩
      · have hdv' : (n % p == 0) = false := by simpa using hdv
        have e0 : 0 ≤ (n - 1) / 2 ^ t := Int.ediv_nonneg (by omega) (Int.le_of_lt (Int.pow_pos (by decide)))
        have e1 : (n - 1) / 2 ^ t ≤ n - 1 := Int.ediv_le_self _ (by omega)
        have HP := Lib.hid (fun w => pow_any p ((n - 1) / 2 ^ t) n w ⟨by omega, by omega⟩ ⟨e0, by omega⟩)
        have hG3 := HG2.out
        simp only [goB, hdv, if_false] at hG3
        have HX := powI_U64 p ((n - 1) / 2 ^ t) n
        unfold passB at hG3
        generalize powI p ((n - 1) / 2 ^ t) n = x0 at HP hG3 HX
        have HU := Lib.hid HX
        clear HX hdv HG2
        by_cases hx1 : x0 = 1
        · have HN : Hid (goB n t (triedL.drop (k + 1)) = goB n t triedL) := Lib.hid (by rw [← hG3]; simp [hx1])
          clear hG3
          have hx1' : (x0 == 1) = true := by simpa using hx1
          clear hx1
          go_wp2_with fail
          refine (HP.out _).mono ?_
          rintro e w' ⟨rfl, n1, rfl⟩
          go_wp2
          go_roundg g
          case measure => omega
          case rel => exact ⟨k + 1, by omega, by go_num, HN, _, rfl⟩
        · have hx1' : (x0 == 1) = false := by simpa using hx1
          have HN : Hid ((if witB n t x0 then goB n t (triedL.drop (k + 1)) else false) = goB n t triedL) := Lib.hid (by rw [← hG3]; simp [hx1'])
          clear hG3 hx1
          go_wp2_with fail
          refine (HP.out _).mono ?_
          rintro e w' ⟨rfl, n1, rfl⟩
          go_wp2_with fail
          clear hidx
          go_loopg [6, 37] t (fun h s6 s37 wx => ∃ (x : Int) (j : Nat), j + h = t ∧ s6 = .int .u64 x ∧ Hid (U64 x) ∧ s37 = .int .i64 j ∧ Hid (witB n h x = witB n t x0) ∧ ∃ q, wx = w.drewN q)
          case atStart => exact ⟨x0, 0, by omega, rfl, HU, rfl, Lib.hid rfl, _, rfl⟩
          case round =>
            obtain ⟨x, j, hj, rfl, hx, rfl, hW, q2, rfl⟩ := hrel
            cases gk with
            | zero =>
              obtain rfl : j = t := by omega
              have HE : Hid (false = goB n j triedL) := Lib.hid (by
                have := HN.out
                rw [← hW.out] at this
                simpa [witB] using this)
              go_wp2
              (try rw [Exit.noGoto_ret])
              go_ret
              exact ⟨congrArg Ending.returned (congrArg Value.bool HE.out), _, rfl⟩
            | succ h =>
              have hjt : (j : Int) < (t : Int) := by omega
              by_cases hxn : x = n - 1
              · have HE : Hid (goB n t (triedL.drop (k + 1)) = goB n t triedL) := Lib.hid (by
                  have := HN.out
                  rw [← hW.out] at this
                  simpa [witB, hxn] using this)
                have hxn' : (x == n - 1) = true := by simpa using hxn
                clear hxn hx1'
                go_wp2
                go_roundg g
                case measure => omega
                case rel => exact ⟨k + 1, by omega, by go_num, HE, _, rfl⟩
              · have hxn' : (x == n - 1) = false := by simpa using hxn
                have HW2 : Hid (witB n h (mulI x x n) = witB n t x0) := Lib.hid (by
                  have := hW.out
                  simpa [witB, hxn'] using this)
                have HX2 := Lib.hid (mulI_U64 x x n)
                clear hxn
                go_wp2_with fail
                refine (mul_any x x n _ hx.out hx.out).mono ?_
                rintro e w' ⟨rfl, n2, rfl⟩
                go_wp2
                go_roundg h
                case measure => omega
                case rel => exact ⟨mulI x x n, j + 1, by omega, rfl, HX2, by go_num, HW2, _, rfl⟩

theorem prime_any (n : Int) (w : World) (hT : TabsAt w) :
    Calls Tryz.prog 78 #[.int .u64 n] w fun e w' => e = .returned (.bool (primeB n)) ∧ ∃ k, w' = w.drewN k := by
  by_cases h : n < 2 ∨ 2305843009213693952 < n
  · rw [show primeB n = false by simp only [primeB, if_pos h]]
    exact prime_out n w h
  · rw [show primeB n = goB n (Lib.ctz 64 (n - 1).toNat) triedL by simp only [primeB, if_neg h]]
    exact prime_in n w (by omega) (by omega) hT
end Go.Proofs.YtphbcfpiklmmeaaGreatDoor

namespace Go.Proofs.YtphbcfpiklmmeaaGreatDoor
open Go.ChangeShapes Go.WideShapes Go.RowKit

theorem u64_wf {a : Int} (h : (Lit.int .u64 a).wf = true) : U64 a := by
  have := bounds_u64 h
  unfold U64
  omega
theorem i64_wf {a : Int} (h : (Lit.int .i64 a).wf = true) : I64 a := by
  have := bounds_i64 h
  unfold I64
  omega
/-- Whatever is read at this type reads so. -/
def Reads {α : Type} (E : Enc α) (t : TypeId) : Prop :=
  ∀ {H : Type} {enc : TypeId × Value → H} {w : World} {base : Nat} {spare : Nat → Bool} {held : Bool} {fuel : Nat} {cs : List Value} {x : DataW H × List MemPlace},
    DataW.trod enc Tryz.prog w base spare held fuel t cs = some x → ∃ a, E.rep (fun _ => True) w cs a
theorem reads_u64 {t : TypeId} (ht : Tryz.prog.underlying t = some (.int .u64)) : Reads encU t := by
  intro H enc w base spare held fuel cs x h
  obtain ⟨n, rfl, _, hw⟩ := DataW.trod_int ht h
  exact ⟨n, rfl, u64_wf hw⟩
theorem reads_pair {t u : TypeId} {f0 f1 : Field} (ht : Tryz.prog.underlying t = some (.struct #[f0, f1])) (h0 : f0.type = u ∧ f0.offset = 0) (h1 : f1.type = u ∧ f1.offset = 1)
    (hu : Tryz.prog.underlying u = some (.int .u64)) (hc : Tryz.prog.cellsOf t = 2) (hcu : Tryz.prog.cellsOf u = 1) : Reads encP t := by
  intro H enc w base spare held fuel cs x h
  obtain ⟨y0, y1, n, _, hl, e0, e1⟩ := trod_struct2 ht h
  rw [h0.1, h0.2, hcu] at e0
  rw [h1.1, h1.2, hcu] at e1
  obtain ⟨a, ea, _, wa⟩ := DataW.trod_int hu e0
  obtain ⟨b, eb, _, wb⟩ := DataW.trod_int hu e1
  rw [hc] at hl
  match cs, hl with
  | [c0, c1], _ =>
    simp at ea eb
    subst ea eb
    exact ⟨(a, b), rfl, u64_wf wa, u64_wf wb⟩
end Go.Proofs.YtphbcfpiklmmeaaGreatDoor

namespace Go.Proofs.YtphbcfpiklmmeaaGreatDoor
open Go.RowKit

def withinB (x lo hi : Int) : Bool := decide (lo ≤ x) && decide (x ≤ hi)
theorem withinB_iff (x lo hi : Int) : withinB x lo hi = true ↔ lo ≤ x ∧ x ≤ hi := by simp [withinB]
set_option maxHeartbeats 400000 in
theorem within_eq (x lo hi : Int) (b : Bool) (h : withinB x lo hi = b) (w : World) :
    Calls Tryz.prog 70 #[.int .i64 x, .int .i64 lo, .int .i64 hi] w fun e w' => e = .returned (.bool b) ∧ w' = w := by
  subst h
  by_cases h1 : lo ≤ x
  · by_cases h2 : x ≤ hi
    · have HE : Hid (withinB x lo hi = true) := Lib.hid (by simp [withinB, h1, h2])
      go_enter Tryz.func70, Tryz.ntmps70
      go_wp2
      go_ret
      exact ⟨ret_bool HE.out.symm, rfl⟩
    · have HE : Hid (withinB x lo hi = false) := Lib.hid (by simp [withinB, h2])
      have h2' : decide (x ≤ hi) = false := by simpa using h2
      clear h2
      go_enter Tryz.func70, Tryz.ntmps70
      go_wp2
      go_ret
      exact ⟨ret_bool HE.out.symm, rfl⟩
  · have HE : Hid (withinB x lo hi = false) := Lib.hid (by simp [withinB, h1])
    have h1' : decide (lo ≤ x) = false := by simpa using h1
    clear h1
    go_enter Tryz.func70, Tryz.ntmps70
    go_wp2
    go_ret
    exact ⟨ret_bool HE.out.symm, rfl⟩

def m1 (p : Par) : Bool := decide (2 ≤ p.P) && decide (p.P ≤ 2305843009213693952) && decide (2 ≤ p.Q) && ((p.P - 1) % p.Q == 0)
def m2 (p : Par) : Bool := withinB p.T 1 2
def m3 (p : Par) : Bool := withinB p.N (3 * p.T + 1) 7 && decide (p.N < p.Q)
def m4 (p : Par) : Bool := withinB p.Nodes p.N 8
def m5 (p : Par) : Bool := withinB p.K 1 2 && withinB p.D 1 4
def m6 (p : Par) : Bool := withinB p.R 1 p.D
def m7 (p : Par) : Bool := withinB p.M 1 1048576 && withinB p.X 1 1048576
def m8 (p : Par) : Bool := decide (2 * (p.D * p.M * p.X + p.M) < p.Q)
def m9 (p : Par) : Bool := primeB p.Q && primeB p.P
def m10 (p : Par) : Bool := decide (p.G ≠ 1) && isB p p.G && decide (p.H ≠ 1) && isB p p.H
def mayP (p : Par) : Bool := m1 p && m2 p && m3 p && m4 p && m5 p && m6 p && m7 p && m8 p && m9 p && m10 p

set_option maxHeartbeats 400000 in
theorem may_1 (p : Par) (g : Nat) (w : World) (hp : p.ok) (hb : Bk w g 24 p.cells) :
    Calls Tryz.prog 68 #[.pointer (some ⟨g, 0, none⟩)] w fun e w' => e = .returned (.bool (m1 p)) ∧ w.grownBy w' none := by
  have hc := hb.prule
  obtain ⟨p0, p1⟩ := hp.P
  obtain ⟨q0, q1⟩ := hp.Q
  clear hb hp
  by_cases h1 : 2 ≤ p.P
  · by_cases h2 : p.P ≤ 2305843009213693952
    · by_cases h3 : 2 ≤ p.Q
      · have HE : Hid (m1 p = ((p.P - 1) % p.Q == 0)) := Lib.hid (by simp [m1, h1, h2, h3])
        go_enter Tryz.func68, Tryz.ntmps68
        go_wp2
        go_ret
        exact ⟨ret_bool HE.out.symm, World.grownBy.refl w none⟩
      · have HE : Hid (m1 p = false) := Lib.hid (by simp [m1, h3])
        have h3' : decide (2 ≤ p.Q) = false := by simpa using h3
        clear h3
        go_enter Tryz.func68, Tryz.ntmps68
        go_wp2
        go_ret
        exact ⟨ret_bool HE.out.symm, World.grownBy.refl w none⟩
    · have HE : Hid (m1 p = false) := Lib.hid (by simp [m1, h2])
      have h2' : decide (p.P ≤ 2305843009213693952) = false := by simpa using h2
      clear h2
      go_enter Tryz.func68, Tryz.ntmps68
      go_wp2
      go_ret
      exact ⟨ret_bool HE.out.symm, World.grownBy.refl w none⟩
  · have HE : Hid (m1 p = false) := Lib.hid (by simp [m1, h1])
    have h1' : decide (2 ≤ p.P) = false := by simpa using h1
    clear h1
    go_enter Tryz.func68, Tryz.ntmps68
    go_wp2
    go_ret
    exact ⟨ret_bool HE.out.symm, World.grownBy.refl w none⟩
set_option maxHeartbeats 400000 in
theorem may_2 (p : Par) (g : Nat) (w : World) (hb : Bk w g 24 p.cells) :
    Calls Tryz.prog 69 #[.pointer (some ⟨g, 0, none⟩)] w fun e w' => e = .returned (.bool (m2 p)) ∧ w.grownBy w' none := by
  have hc := hb.prule
  have HW := Lib.hid (fun w => within_eq p.T 1 2 _ rfl w)
  clear hb
  go_enter Tryz.func69, Tryz.ntmps69
  go_wp2_with fail
  refine (HW.out _).mono ?_
  rintro e w' ⟨rfl, rfl⟩
  go_wp2
  go_ret
  exact ⟨rfl, World.grownBy.refl _ none⟩
set_option maxHeartbeats 400000 in
theorem may_3 (p : Par) (g : Nat) (w : World) (hp : p.ok) (hb : Bk w g 24 p.cells) (h2 : m2 p = true) :
    Calls Tryz.prog 71 #[.pointer (some ⟨g, 0, none⟩)] w fun e w' => e = .returned (.bool (m3 p)) ∧ w.grownBy w' none := by
  have hc := hb.prule
  obtain ⟨t0, t1⟩ := (withinB_iff _ _ _).1 h2
  obtain ⟨q0, q1⟩ := hp.Q
  clear hb hp h2
  cases hN : withinB p.N (3 * p.T + 1) 7 with
  | true =>
    obtain ⟨n0, n1⟩ := (withinB_iff _ _ _).1 hN
    have HW := Lib.hid (fun w => within_eq p.N (3 * p.T + 1) 7 _ hN w)
    have HE : Hid (m3 p = decide (p.N < p.Q)) := Lib.hid (by simp [m3, hN])
    clear hN
    go_enter Tryz.func71, Tryz.ntmps71
    go_wp2_with fail
    refine (HW.out _).mono ?_
    rintro e w' ⟨rfl, rfl⟩
    go_wp2
    go_ret
    exact ⟨ret_bool HE.out.symm, World.grownBy.refl _ none⟩
  | false =>
    have HW := Lib.hid (fun w => within_eq p.N (3 * p.T + 1) 7 _ hN w)
    have HE : Hid (m3 p = false) := Lib.hid (by simp [m3, hN])
    clear hN
    go_enter Tryz.func71, Tryz.ntmps71
    go_wp2_with fail
    refine (HW.out _).mono ?_
    rintro e w' ⟨rfl, rfl⟩
    go_wp2
    go_ret
    exact ⟨ret_bool HE.out.symm, World.grownBy.refl _ none⟩
set_option maxHeartbeats 400000 in
theorem may_4 (p : Par) (g : Nat) (w : World) (hb : Bk w g 24 p.cells) :
    Calls Tryz.prog 72 #[.pointer (some ⟨g, 0, none⟩)] w fun e w' => e = .returned (.bool (m4 p)) ∧ w.grownBy w' none := by
  have hc := hb.prule
  have HW := Lib.hid (fun w => within_eq p.Nodes p.N 8 _ rfl w)
  clear hb
  go_enter Tryz.func72, Tryz.ntmps72
  go_wp2_with fail
  refine (HW.out _).mono ?_
  rintro e w' ⟨rfl, rfl⟩
  go_wp2
  go_ret
  exact ⟨rfl, World.grownBy.refl _ none⟩
set_option maxHeartbeats 400000 in
theorem may_5 (p : Par) (g : Nat) (w : World) (hb : Bk w g 24 p.cells) :
    Calls Tryz.prog 73 #[.pointer (some ⟨g, 0, none⟩)] w fun e w' => e = .returned (.bool (m5 p)) ∧ w.grownBy w' none := by
  have hc := hb.prule
  clear hb
  cases hN : withinB p.K 1 2 with
  | true =>
    have HW := Lib.hid (fun w => within_eq p.K 1 2 _ hN w)
    have HV := Lib.hid (fun w => within_eq p.D 1 4 _ rfl w)
    have HE : Hid (m5 p = withinB p.D 1 4) := Lib.hid (by simp [m5, hN])
    clear hN
    go_enter Tryz.func73, Tryz.ntmps73
    go_wp2_with fail
    refine (HW.out _).mono ?_
    rintro e w' ⟨rfl, rfl⟩
    go_wp2_with fail
    refine (HV.out _).mono ?_
    rintro e w' ⟨rfl, rfl⟩
    go_wp2
    go_ret
    exact ⟨ret_bool HE.out.symm, World.grownBy.refl _ none⟩
  | false =>
    have HW := Lib.hid (fun w => within_eq p.K 1 2 _ hN w)
    have HE : Hid (m5 p = false) := Lib.hid (by simp [m5, hN])
    clear hN
    go_enter Tryz.func73, Tryz.ntmps73
    go_wp2_with fail
    refine (HW.out _).mono ?_
    rintro e w' ⟨rfl, rfl⟩
    go_wp2
    go_ret
    exact ⟨ret_bool HE.out.symm, World.grownBy.refl _ none⟩
set_option maxHeartbeats 400000 in
theorem may_6 (p : Par) (g : Nat) (w : World) (hb : Bk w g 24 p.cells) :
    Calls Tryz.prog 74 #[.pointer (some ⟨g, 0, none⟩)] w fun e w' => e = .returned (.bool (m6 p)) ∧ w.grownBy w' none := by
  have hc := hb.prule
  have HW := Lib.hid (fun w => within_eq p.R 1 p.D _ rfl w)
  clear hb
  go_enter Tryz.func74, Tryz.ntmps74
  go_wp2_with fail
  refine (HW.out _).mono ?_
  rintro e w' ⟨rfl, rfl⟩
  go_wp2
  go_ret
  exact ⟨rfl, World.grownBy.refl _ none⟩
set_option maxHeartbeats 400000 in
theorem may_7 (p : Par) (g : Nat) (w : World) (hb : Bk w g 24 p.cells) :
    Calls Tryz.prog 75 #[.pointer (some ⟨g, 0, none⟩)] w fun e w' => e = .returned (.bool (m7 p)) ∧ w.grownBy w' none := by
  have hc := hb.prule
  clear hb
  cases hN : withinB p.M 1 1048576 with
  | true =>
    have HW := Lib.hid (fun w => within_eq p.M 1 1048576 _ hN w)
    have HV := Lib.hid (fun w => within_eq p.X 1 1048576 _ rfl w)
    have HE : Hid (m7 p = withinB p.X 1 1048576) := Lib.hid (by simp [m7, hN])
    clear hN
    go_enter Tryz.func75, Tryz.ntmps75
    go_wp2_with fail
    refine (HW.out _).mono ?_
    rintro e w' ⟨rfl, rfl⟩
    go_wp2_with fail
    refine (HV.out _).mono ?_
    rintro e w' ⟨rfl, rfl⟩
    go_wp2
    go_ret
    exact ⟨ret_bool HE.out.symm, World.grownBy.refl _ none⟩
  | false =>
    have HW := Lib.hid (fun w => within_eq p.M 1 1048576 _ hN w)
    have HE : Hid (m7 p = false) := Lib.hid (by simp [m7, hN])
    clear hN
    go_enter Tryz.func75, Tryz.ntmps75
    go_wp2_with fail
    refine (HW.out _).mono ?_
    rintro e w' ⟨rfl, rfl⟩
    go_wp2
    go_ret
    exact ⟨ret_bool HE.out.symm, World.grownBy.refl _ none⟩
theorem mul_bd (a b x y : Int) (ha0 : 0 ≤ a) (ha : a ≤ x) (hb0 : 0 ≤ b) (hb : b ≤ y) : 0 ≤ a * b ∧ a * b ≤ x * y :=
  ⟨Int.mul_nonneg ha0 hb0, Int.mul_le_mul ha hb hb0 (by omega)⟩
set_option maxHeartbeats 400000 in
theorem may_8 (p : Par) (g : Nat) (w : World) (hp : p.ok) (hb : Bk w g 24 p.cells) (h5 : m5 p = true) (h7 : m7 p = true) :
    Calls Tryz.prog 76 #[.pointer (some ⟨g, 0, none⟩)] w fun e w' => e = .returned (.bool (m8 p)) ∧ w.grownBy w' none := by
  have hc := hb.prule
  simp only [m5, m7, Bool.and_eq_true, withinB_iff] at h5 h7
  obtain ⟨_, d0, d1⟩ := h5
  obtain ⟨⟨a0, a1⟩, x0, x1⟩ := h7
  obtain ⟨q0, q1⟩ := hp.Q
  obtain ⟨e0, e1⟩ := mul_bd p.D p.M 4 1048576 (by omega) d1 (by omega) a1
  obtain ⟨f0, f1⟩ := mul_bd (p.D * p.M) p.X (4 * 1048576) 1048576 e0 e1 (by omega) x1
  have HE : Hid (m8 p = decide (2 * (p.D * p.M * p.X + p.M) < p.Q)) := Lib.hid rfl
  clear hb hp
  go_enter Tryz.func76, Tryz.ntmps76
  go_wp2
  go_ret
  exact ⟨ret_bool HE.out.symm, World.grownBy.refl _ none⟩
end Go.Proofs.YtphbcfpiklmmeaaGreatDoor

namespace Go.Proofs.YtphbcfpiklmmeaaGreatDoor
open Go.RowKit

theorem cell_lt {w : World} {g o : Nat} {v : Value} (h : w.cell? ⟨g, o, none⟩ = some v) : g < w.heap.size := by
  rcases Nat.lt_or_ge g w.heap.size with hlt | hge
  · exact hlt
  · simp [World.cell?, Array.getElem?_eq_none hge] at h
theorem TabsAt.kept {w w' : World} (h : TabsAt w) (hg : w.grownBy w' none) : TabsAt w' :=
  ⟨fun j hj => by have := h.1 j hj; rw [World.cell?_of_block (w := w) (hg.block _ (cell_lt this) (by simp))]; exact this,
   fun j hj => by have := h.2 j hj; rw [World.cell?_of_block (w := w) (hg.block _ (cell_lt this) (by simp))]; exact this⟩
set_option maxHeartbeats 400000 in
theorem may_9 (p : Par) (g : Nat) (w : World) (hT : TabsAt w) (hb : Bk w g 24 p.cells) :
    Calls Tryz.prog 77 #[.pointer (some ⟨g, 0, none⟩)] w fun e w' => e = .returned (.bool (m9 p)) ∧ w.grownBy w' none := by
  have hc := hb.prule
  have HQ := prime_any p.Q w hT
  have HP := Lib.hid (fun k => prime_any p.P (w.drewN k) (hT.drewN k))
  clear hb hT
  cases hQ : primeB p.Q with
  | true =>
    rw [hQ] at HQ
    have HQ2 := Lib.hid HQ
    have HE : Hid (m9 p = primeB p.P) := Lib.hid (by simp [m9, hQ])
    clear hQ HQ
    go_enter Tryz.func77, Tryz.ntmps77
    go_wp2_with fail
    refine HQ2.out.mono ?_
    rintro e w' ⟨rfl, k, rfl⟩
    go_wp2_with fail
    refine (HP.out k).mono ?_
    rintro e w' ⟨rfl, k2, rfl⟩
    go_wp2
    go_ret
    exact ⟨ret_bool HE.out.symm, grownBy_drewN (World.grownBy.refl w none) _⟩
  | false =>
    rw [hQ] at HQ
    have HQ2 := Lib.hid HQ
    have HE : Hid (m9 p = false) := Lib.hid (by simp [m9, hQ])
    clear hQ HQ
    go_enter Tryz.func77, Tryz.ntmps77
    go_wp2_with fail
    refine HQ2.out.mono ?_
    rintro e w' ⟨rfl, k, rfl⟩
    go_wp2
    go_ret
    exact ⟨ret_bool HE.out.symm, grownBy_drewN (World.grownBy.refl w none) _⟩
theorem is_eq (p : Par) (x : Int) (b : Bool) (h : isB p x = b) (w : World) (hp : p.ok) (h1 : U64 x) :
    Calls Tryz.prog 80 #[p.v, .int .u64 x] w fun e' w' => e' = .returned (.bool b) ∧ w.grownBy w' none := h ▸ is_any p x w hp h1
set_option maxHeartbeats 400000 in
theorem may_10 (p : Par) (g : Nat) (w : World) (hp : p.ok) (hb : Bk w g 24 p.cells) :
    Calls Tryz.prog 79 #[.pointer (some ⟨g, 0, none⟩)] w fun e w' => e = .returned (.bool (m10 p)) ∧ w.grownBy w' none := by
  have hc := hb.prule
  have HB := Lib.hid hb
  by_cases h1 : p.G = 1
  · have h1' : (p.G != 1) = false := by simpa using h1
    have HE : Hid (m10 p = false) := Lib.hid (by simp [m10, h1])
    clear h1 hp hb
    go_enter Tryz.func79, Tryz.ntmps79
    go_wp2
    go_ret
    exact ⟨ret_bool HE.out.symm, World.grownBy.refl w none⟩
  · have h1' : (p.G != 1) = true := by simpa using h1
    cases hG : isB p p.G with
    | false =>
      have HI := Lib.hid (fun w => is_eq p p.G _ hG w hp hp.G)
      have HE : Hid (m10 p = false) := Lib.hid (by simp [m10, hG])
      clear h1 hp hb hG
      go_enter Tryz.func79, Tryz.ntmps79
      go_wp2_with fail
      refine (HI.out _).mono ?_
      rintro e w1 ⟨rfl, hg⟩
      have HG := Lib.hid hg
      clear hg
      go_wp2
      go_ret
      exact ⟨ret_bool HE.out.symm, HG.out⟩
    | true =>
      have HI := Lib.hid (fun w => is_eq p p.G _ hG w hp hp.G)
      by_cases h2 : p.H = 1
      · have h2' : (p.H != 1) = false := by simpa using h2
        have HE : Hid (m10 p = false) := Lib.hid (by simp [m10, h2])
        clear h1 h2 hp hb hG
        go_enter Tryz.func79, Tryz.ntmps79
        go_wp2_with fail
        refine (HI.out _).mono ?_
        rintro e w1 ⟨rfl, hg⟩
        have HG := Lib.hid hg
        have hc1 := (HB.out.grown hg (by simp)).prule
        clear hg
        go_wp2
        go_ret
        exact ⟨ret_bool HE.out.symm, HG.out⟩
      · have h2' : (p.H != 1) = true := by simpa using h2
        have HJ := Lib.hid (fun w => is_any p p.H w hp hp.H)
        have HE : Hid (m10 p = isB p p.H) := Lib.hid (by simp [m10, hG, h1, h2])
        clear h1 h2 hp hb hG
        go_enter Tryz.func79, Tryz.ntmps79
        go_wp2_with fail
        refine (HI.out _).mono ?_
        rintro e w1 ⟨rfl, hg⟩
        have HG := Lib.hid hg
        have hc1 := (HB.out.grown hg (by simp)).prule
        clear hg
        go_wp2_with fail
        refine (HJ.out _).mono ?_
        rintro e w2 ⟨rfl, hg⟩
        have HG2 := Lib.hid (HG.out.trans hg)
        clear hg
        go_wp2
        go_ret
        exact ⟨ret_bool HE.out.symm, HG2.out⟩
def ms (p : Par) : List Bool := [m1 p, m2 p, m3 p, m4 p, m5 p, m6 p, m7 p, m8 p, m9 p, m10 p]
def fvs (g : Nat) : List Value := [.func (.func 68) #[] #[.pointer (some ⟨g, 0, none⟩)], .func (.func 69) #[] #[.pointer (some ⟨g, 0, none⟩)], .func (.func 71) #[] #[.pointer (some ⟨g, 0, none⟩)], .func (.func 72) #[] #[.pointer (some ⟨g, 0, none⟩)], .func (.func 73) #[] #[.pointer (some ⟨g, 0, none⟩)], .func (.func 74) #[] #[.pointer (some ⟨g, 0, none⟩)], .func (.func 75) #[] #[.pointer (some ⟨g, 0, none⟩)], .func (.func 76) #[] #[.pointer (some ⟨g, 0, none⟩)], .func (.func 77) #[] #[.pointer (some ⟨g, 0, none⟩)], .func (.func 79) #[] #[.pointer (some ⟨g, 0, none⟩)]]

set_option maxHeartbeats 400000 in
theorem ask_1 (p : Par) (g : Nat) (w : World) (hp : p.ok) (_hT : TabsAt w) (hb : Bk w g 24 p.cells)  :
    Calls Tryz.prog 82 #[.func (.func 68) #[] #[.pointer (some ⟨g, 0, none⟩)]] w fun e w' => e = .returned (.bool (!m1 p)) ∧ w.grownBy w' none := by
  have HM := Lib.hid (may_1 p g w hp hb)
  clear hp _hT hb
  go_enter Tryz.func82, Tryz.ntmps82
  go_wp2_with fail
  refine HM.out.mono ?_
  rintro e w1 ⟨rfl, hg⟩
  have HG := Lib.hid hg
  clear hg
  go_wp2
  go_ret
  exact ⟨rfl, HG.out⟩
set_option maxHeartbeats 400000 in
theorem ask_2 (p : Par) (g : Nat) (w : World) (_hp : p.ok) (_hT : TabsAt w) (hb : Bk w g 24 p.cells)  :
    Calls Tryz.prog 82 #[.func (.func 69) #[] #[.pointer (some ⟨g, 0, none⟩)]] w fun e w' => e = .returned (.bool (!m2 p)) ∧ w.grownBy w' none := by
  have HM := Lib.hid (may_2 p g w hb)
  clear _hp _hT hb
  go_enter Tryz.func82, Tryz.ntmps82
  go_wp2_with fail
  refine HM.out.mono ?_
  rintro e w1 ⟨rfl, hg⟩
  have HG := Lib.hid hg
  clear hg
  go_wp2
  go_ret
  exact ⟨rfl, HG.out⟩
set_option maxHeartbeats 400000 in
theorem ask_3 (p : Par) (g : Nat) (w : World) (hp : p.ok) (_hT : TabsAt w) (hb : Bk w g 24 p.cells) (h2 : m2 p = true) :
    Calls Tryz.prog 82 #[.func (.func 71) #[] #[.pointer (some ⟨g, 0, none⟩)]] w fun e w' => e = .returned (.bool (!m3 p)) ∧ w.grownBy w' none := by
  have HM := Lib.hid (may_3 p g w hp hb h2)
  clear hp _hT hb h2
  go_enter Tryz.func82, Tryz.ntmps82
  go_wp2_with fail
  refine HM.out.mono ?_
  rintro e w1 ⟨rfl, hg⟩
  have HG := Lib.hid hg
  clear hg
  go_wp2
  go_ret
  exact ⟨rfl, HG.out⟩
set_option maxHeartbeats 400000 in
theorem ask_4 (p : Par) (g : Nat) (w : World) (_hp : p.ok) (_hT : TabsAt w) (hb : Bk w g 24 p.cells)  :
    Calls Tryz.prog 82 #[.func (.func 72) #[] #[.pointer (some ⟨g, 0, none⟩)]] w fun e w' => e = .returned (.bool (!m4 p)) ∧ w.grownBy w' none := by
  have HM := Lib.hid (may_4 p g w hb)
  clear _hp _hT hb
  go_enter Tryz.func82, Tryz.ntmps82
  go_wp2_with fail
  refine HM.out.mono ?_
  rintro e w1 ⟨rfl, hg⟩
  have HG := Lib.hid hg
  clear hg
  go_wp2
  go_ret
  exact ⟨rfl, HG.out⟩
set_option maxHeartbeats 400000 in
theorem ask_5 (p : Par) (g : Nat) (w : World) (_hp : p.ok) (_hT : TabsAt w) (hb : Bk w g 24 p.cells)  :
    Calls Tryz.prog 82 #[.func (.func 73) #[] #[.pointer (some ⟨g, 0, none⟩)]] w fun e w' => e = .returned (.bool (!m5 p)) ∧ w.grownBy w' none := by
  have HM := Lib.hid (may_5 p g w hb)
  clear _hp _hT hb
  go_enter Tryz.func82, Tryz.ntmps82
  go_wp2_with fail
  refine HM.out.mono ?_
  rintro e w1 ⟨rfl, hg⟩
  have HG := Lib.hid hg
  clear hg
  go_wp2
  go_ret
  exact ⟨rfl, HG.out⟩
set_option maxHeartbeats 400000 in
theorem ask_6 (p : Par) (g : Nat) (w : World) (_hp : p.ok) (_hT : TabsAt w) (hb : Bk w g 24 p.cells)  :
    Calls Tryz.prog 82 #[.func (.func 74) #[] #[.pointer (some ⟨g, 0, none⟩)]] w fun e w' => e = .returned (.bool (!m6 p)) ∧ w.grownBy w' none := by
  have HM := Lib.hid (may_6 p g w hb)
  clear _hp _hT hb
  go_enter Tryz.func82, Tryz.ntmps82
  go_wp2_with fail
  refine HM.out.mono ?_
  rintro e w1 ⟨rfl, hg⟩
  have HG := Lib.hid hg
  clear hg
  go_wp2
  go_ret
  exact ⟨rfl, HG.out⟩
set_option maxHeartbeats 400000 in
theorem ask_7 (p : Par) (g : Nat) (w : World) (_hp : p.ok) (_hT : TabsAt w) (hb : Bk w g 24 p.cells)  :
    Calls Tryz.prog 82 #[.func (.func 75) #[] #[.pointer (some ⟨g, 0, none⟩)]] w fun e w' => e = .returned (.bool (!m7 p)) ∧ w.grownBy w' none := by
  have HM := Lib.hid (may_7 p g w hb)
  clear _hp _hT hb
  go_enter Tryz.func82, Tryz.ntmps82
  go_wp2_with fail
  refine HM.out.mono ?_
  rintro e w1 ⟨rfl, hg⟩
  have HG := Lib.hid hg
  clear hg
  go_wp2
  go_ret
  exact ⟨rfl, HG.out⟩
set_option maxHeartbeats 400000 in
theorem ask_8 (p : Par) (g : Nat) (w : World) (hp : p.ok) (_hT : TabsAt w) (hb : Bk w g 24 p.cells) (h5 : m5 p = true) (h7 : m7 p = true) :
    Calls Tryz.prog 82 #[.func (.func 76) #[] #[.pointer (some ⟨g, 0, none⟩)]] w fun e w' => e = .returned (.bool (!m8 p)) ∧ w.grownBy w' none := by
  have HM := Lib.hid (may_8 p g w hp hb h5 h7)
  clear hp _hT hb h5 h7
  go_enter Tryz.func82, Tryz.ntmps82
  go_wp2_with fail
  refine HM.out.mono ?_
  rintro e w1 ⟨rfl, hg⟩
  have HG := Lib.hid hg
  clear hg
  go_wp2
  go_ret
  exact ⟨rfl, HG.out⟩
set_option maxHeartbeats 400000 in
theorem ask_9 (p : Par) (g : Nat) (w : World) (_hp : p.ok) (hT : TabsAt w) (hb : Bk w g 24 p.cells)  :
    Calls Tryz.prog 82 #[.func (.func 77) #[] #[.pointer (some ⟨g, 0, none⟩)]] w fun e w' => e = .returned (.bool (!m9 p)) ∧ w.grownBy w' none := by
  have HM := Lib.hid (may_9 p g w hT hb)
  clear _hp hT hb
  go_enter Tryz.func82, Tryz.ntmps82
  go_wp2_with fail
  refine HM.out.mono ?_
  rintro e w1 ⟨rfl, hg⟩
  have HG := Lib.hid hg
  clear hg
  go_wp2
  go_ret
  exact ⟨rfl, HG.out⟩
set_option maxHeartbeats 400000 in
theorem ask_10 (p : Par) (g : Nat) (w : World) (hp : p.ok) (_hT : TabsAt w) (hb : Bk w g 24 p.cells)  :
    Calls Tryz.prog 82 #[.func (.func 79) #[] #[.pointer (some ⟨g, 0, none⟩)]] w fun e w' => e = .returned (.bool (!m10 p)) ∧ w.grownBy w' none := by
  have HM := Lib.hid (may_10 p g w hp hb)
  clear hp _hT hb
  go_enter Tryz.func82, Tryz.ntmps82
  go_wp2_with fail
  refine HM.out.mono ?_
  rintro e w1 ⟨rfl, hg⟩
  have HG := Lib.hid hg
  clear hg
  go_wp2
  go_ret
  exact ⟨rfl, HG.out⟩
theorem ask_any (p : Par) (g : Nat) (w : World) (hp : p.ok) (hT : TabsAt w) (hb : Bk w g 24 p.cells) : ∀ (j : Nat) (_h : j < (fvs g).length) (h' : j < (ms p).length), (∀ i (hi : i < j), (ms p)[i]'(by omega) = true) →
    Calls Tryz.prog 82 #[(fvs g)[j]] w fun e w' => e = .returned (.bool (!(ms p)[j])) ∧ w.grownBy w' none
  | 0, _, _, _ => ask_1 p g w hp hT hb
  | 1, _, _, _ => ask_2 p g w hp hT hb
  | 2, _, _, hh => ask_3 p g w hp hT hb (hh 1 (by omega))
  | 3, _, _, _ => ask_4 p g w hp hT hb
  | 4, _, _, _ => ask_5 p g w hp hT hb
  | 5, _, _, _ => ask_6 p g w hp hT hb
  | 6, _, _, _ => ask_7 p g w hp hT hb
  | 7, _, _, hh => ask_8 p g w hp hT hb (hh 4 (by omega)) (hh 6 (by omega))
  | 8, _, _, _ => ask_9 p g w hp hT hb
  | 9, _, _, _ => ask_10 p g w hp hT hb
  | n + 10, h, _, _ => absurd h (by simp [fvs])
theorem mayP_all (p : Par) : mayP p = (ms p).all id := by simp [mayP, ms, Bool.and_assoc]
/-- What IndexFunc tells of the asks. -/
def Found (p : Par) (w : World) (e : Ending) (w' : World) : Prop := ∃ n : Int, e = .returned (.int .i64 n) ∧ decide (0 ≤ n) = !mayP p ∧ w.grownBy w' none
set_option maxHeartbeats 400000 in
theorem index_any (p : Par) (g ga : Nat) (t : TypeId) (w : World) (hp : p.ok) (hT : TabsAt w) (hb : Bk w g 24 p.cells) (ha : Bk w ga t (fvs g).toArray) :
    Calls Tryz.prog 117 #[.slice (some ⟨ga, 0, none⟩) 10 10, .func (.func 82) #[] #[]] w (Found p w) := by
  have HP := Lib.hid hp
  have HT := Lib.hid hT
  have HB := Lib.hid hb
  have HA := Lib.hid ha
  clear hp hT hb ha
  go_enter Tryz.func117, Tryz.ntmps117
  go_wp2_with fail
  go_loopg [8] 10 (fun n s8 wx => ∃ j : Nat, j + n = 10 ∧ s8 = .int .i64 j ∧ Hid (w.grownBy wx none ∧ ∀ i (_ : i < j) (h : i < (ms p).length), (ms p)[i] = true))
  case atStart => exact ⟨0, by omega, rfl, Lib.hid ⟨World.grownBy.refl w none, fun i hi => absurd hi (by omega)⟩⟩
  case round =>
    obtain ⟨j, hj, rfl, HX⟩ := hrel
    cases gk with
    | zero =>
      obtain rfl : j = 10 := by omega
      have HE : Hid (Found p w (.returned (.int .i64 (-1))) wr) := Lib.hid ⟨-1, rfl, by
        have : mayP p = true := by
          rw [mayP_all, List.all_eq_true]
          intro b hb
          obtain ⟨i, hi, rfl⟩ := List.getElem_of_mem hb
          exact HX.out.2 i (by simp [ms] at hi; omega) hi
        rw [this]
        rfl, HX.out.1⟩
      clear HX
      go_wp2
      go_ret
      exact HE.out
    | succ k =>
      have hjn : (j : Int) < 10 := by omega
      have hj1 : j < (fvs g).length := by simp [fvs]; omega
      have hj2 : j < (ms p).length := by simp [ms]; omega
      have hcell : wr.cell? ⟨ga, j, none⟩ = some (fvs g)[j] := by
        rw [(HA.out.grown HX.out.1 (by simp)).cell j, List.getElem?_toArray]
        exact List.getElem?_eq_getElem hj1
      have HC := Lib.hid (ask_any p g wr HP.out (HT.out.kept HX.out.1) (HB.out.grown HX.out.1 (by simp)) j hj1 hj2 (fun i hi => HX.out.2 i hi (by omega)))
      have HV : Hid ((ms p)[j] = true ∨ (ms p)[j] = false) := Lib.hid (by cases (ms p)[j] <;> simp)
      have HR : Hid ((ms p)[j] = true → ∀ i (_ : i < j + 1) (h : i < (ms p).length), (ms p)[i] = true) := Lib.hid (fun h i hi hl => by
        rcases Nat.lt_or_ge i j with h1 | h1
        · exact HX.out.2 i h1 hl
        · obtain rfl : i = j := by omega
          exact h)
      have HN : Hid ((ms p)[j] = false → mayP p = false) := Lib.hid (fun h => by
        rw [mayP_all, Bool.eq_false_iff]
        intro hall
        rw [List.all_eq_true] at hall
        have := hall _ (List.getElem_mem hj2)
        simp [h] at this)
      have HG := Lib.hid HX.out.1
      generalize (fvs g)[j] = fv at *
      generalize (ms p)[j] = b at *
      clear HX hj1 hj2
      rcases HV.out with rfl | rfl
      · go_wp2_with fail
        refine HC.out.mono ?_
        rintro e w1 ⟨rfl, hg⟩
        have HG1 := Lib.hid (HG.out.trans hg)
        clear hg
        go_wp2
        go_roundg k
        case measure => omega
        case rel => exact ⟨j + 1, by omega, by go_num, Lib.hid ⟨HG1.out, HR.out (by simp)⟩⟩
      · have HE : Hid (∀ w1, w.grownBy w1 none → Found p w (.returned (.int .i64 j)) w1) := Lib.hid (fun w1 hg => ⟨j, rfl, by rw [HN.out rfl]; simp, hg⟩)
        go_wp2_with fail
        refine HC.out.mono ?_
        rintro e w1 ⟨rfl, hg⟩
        have HG1 := Lib.hid (HG.out.trans hg)
        clear hg
        go_wp2
        go_ret
        exact HE.out _ HG1.out
set_option maxHeartbeats 400000 in
theorem contains_any (p : Par) (g ga : Nat) (t : TypeId) (w : World) (hp : p.ok) (hT : TabsAt w) (hb : Bk w g 24 p.cells) (ha : Bk w ga t (fvs g).toArray) :
    Calls Tryz.prog 81 #[.slice (some ⟨ga, 0, none⟩) 10 10, .func (.func 82) #[] #[]] w fun e w' => e = .returned (.bool (!mayP p)) ∧ w.grownBy w' none := by
  have HI := Lib.hid (index_any p g ga t w hp hT hb ha)
  clear hp hT hb ha
  go_enter Tryz.func81, Tryz.ntmps81
  go_wp2_with fail
  refine HI.out.mono ?_
  rintro e w1 ⟨n, rfl, hn, hg⟩
  have HN := Lib.hid hn
  have HG := Lib.hid hg
  clear hn hg
  go_wp2
  go_ret
  exact ⟨ret_bool HN.out, HG.out⟩
set_option maxHeartbeats 400000 in
theorem may_any (p : Par) (w : World) (hp : p.ok) (hT : TabsAt w) :
    Calls Tryz.prog 28 #[p.v] w fun e w' => e = .returned (.bool (mayP p)) ∧ w.grownBy w' none := by
  have hg1 : w.grownBy (w.alloc (Obj.cells p.cells 24)) none := World.grownBy_alloc w _ none
  have hg2 := World.grownBy_alloc (w.alloc (Obj.cells p.cells 24)) (Obj.cells (fvs w.heap.size).toArray 56) none
  have HC := Lib.hid (contains_any p w.heap.size (w.heap.size + 1) 56 ((w.alloc (Obj.cells p.cells 24)).alloc (Obj.cells (fvs w.heap.size).toArray 56)) hp (hT.kept (hg1.trans hg2)) ((Bk.new w _ _).alloc _)
    (by have := Bk.new (w.alloc (Obj.cells p.cells 24)) 56 (fvs w.heap.size).toArray; rwa [World.size_alloc] at this))
  have HGR := Lib.hid (hg1.trans hg2)
  clear hp hT hg1 hg2
  unfold fvs at HC HGR
  go_enter Tryz.func28, Tryz.ntmps28
  go_wp2_with fail
  refine HC.out.mono ?_
  rintro e w1 ⟨rfl, hg⟩
  have HG := Lib.hid (HGR.out.trans hg)
  clear hg
  go_wp2
  go_ret
  exact ⟨ret_bool (by simp), HG.out⟩
end Go.Proofs.YtphbcfpiklmmeaaGreatDoor

namespace Go.Proofs.YtphbcfpiklmmeaaGreatDoor
open Go.RowKit

def Quietly (w : World) (v : Value) (e : Ending) (w' : World) : Prop := e = .returned v ∧ ∃ n, w' = w.drewN n

set_option maxHeartbeats 400000 in
theorem nums_eq (v1 v2 : Value) (xs : List Int) (X Y : Nat → Prop) (w : World) (h1 : Sl encU X w v1 xs) (h2 : Sl encU Y w v2 xs) :
    Calls Tryz.prog 15 #[v1, v2] w (Quietly w (.bool true)) := by
  have H1 := Lib.hid h1
  have H2 := Lib.hid h2
  obtain ⟨A1, c1, rfl, hc1, hc2⟩ := h1.form
  obtain ⟨A2, c2, rfl, _, _⟩ := h2.form
  clear h1 h2
  have HST : Hid (∃ n, w = w.drewN n) := Lib.hid ⟨0, rfl⟩
  go_enter Tryz.func15, Tryz.ntmps15
  go_wp2_with fail
  go_loopg [5] xs.length (fun g s5 wx => ∃ j : Nat, j + g = xs.length ∧ s5 = .int .i64 j ∧ Hid (∃ n, wx = w.drewN n))
  case atStart => exact ⟨0, by omega, rfl, HST⟩
  case round =>
    obtain ⟨j, hj, rfl, HX⟩ := hrel
    obtain ⟨n0, rfl⟩ := HX.out
    cases gk with
    | zero =>
      obtain rfl : j = xs.length := by omega
      clear HX HST
      go_wp2
      go_ret
      exact ⟨rfl, _, rfl⟩
    | succ m =>
      have hjn : (j : Int) < (xs.length : Int) := by omega
      have hj0 : (0 : Int) ≤ (j : Int) := by omega
      have hjN : j < xs.length := by omega
      obtain ⟨g1, o1, c1', e1, _, _, a1, u1⟩ := H1.out.atU hjN
      injection e1 with e11 e12 e13
      subst e11 e13
      obtain ⟨g2, o2, c2', e2, _, _, a2, _⟩ := H2.out.atU hjN
      injection e2 with e21 e22 e23
      subst e21 e23
      clear HX HST e12 e22
      generalize xs[j] = y at *
      go_wp2_with fail
      go_quiet (fail)
      go_wp2_with fail
      go_roundg m
      case measure => omega
      case rel => exact ⟨j + 1, by omega, by go_num, Lib.hid ⟨_, rfl⟩⟩

set_option maxHeartbeats 400000 in
theorem lists_eq (v1 v2 : Value) (xs : List (List Int)) (X Y : Nat → Prop) (w : World) (h1 : Sl (encS encU) X w v1 xs) (h2 : Sl (encS encU) Y w v2 xs) :
    Calls Tryz.prog 10 #[v1, v2] w (Quietly w (.bool true)) := by
  have H1 := Lib.hid h1
  have H2 := Lib.hid h2
  obtain ⟨A1, c1, rfl, hc1, hc2⟩ := h1.form
  obtain ⟨A2, c2, rfl, _, _⟩ := h2.form
  clear h1 h2
  have HST : Hid (∃ n, w = w.drewN n) := Lib.hid ⟨0, rfl⟩
  go_enter Tryz.func10, Tryz.ntmps10
  go_wp2_with fail
  go_loopg [5] xs.length (fun g s5 wx => ∃ j : Nat, j + g = xs.length ∧ s5 = .int .i64 j ∧ Hid (∃ n, wx = w.drewN n))
  case atStart => exact ⟨0, by omega, rfl, HST⟩
  case round =>
    obtain ⟨j, hj, rfl, HX⟩ := hrel
    obtain ⟨n0, rfl⟩ := HX.out
    cases gk with
    | zero =>
      obtain rfl : j = xs.length := by omega
      clear HX HST
      go_wp2
      go_ret
      exact ⟨rfl, _, rfl⟩
    | succ m =>
      have hjn : (j : Int) < (xs.length : Int) := by omega
      have hj0 : (0 : Int) ≤ (j : Int) := by omega
      have hjN : j < xs.length := by omega
      obtain ⟨g1, o1, c1', t1, e1, _, _, a1, k1⟩ := H1.out.atS hjN
      injection e1 with e11 e12 e13
      subst e11 e13
      obtain ⟨g2, o2, c2', t2, e2, _, _, a2, k2⟩ := H2.out.atS hjN
      injection e2 with e21 e22 e23
      subst e21 e23
      have HN := Lib.hid (fun k => nums_eq t1 t2 xs[j] X Y (w.drewN k) (k1.kept (grownBy_drewN (World.grownBy.refl w none) k)) (k2.kept (grownBy_drewN (World.grownBy.refl w none) k)))
      obtain ⟨B1, d1, rfl, _, _⟩ := k1.form
      obtain ⟨B2, d2, rfl, _, _⟩ := k2.form
      clear HX HST e12 e22 k1 k2
      generalize xs[j].length = n1 at *
      go_wp2_with fail
      go_quiet ((go_at_call 15; exact quiet_add (HN.out _)))
      go_wp2_with fail
      go_roundg m
      case measure => omega
      case rel => exact ⟨j + 1, by omega, by go_num, Lib.hid ⟨_, rfl⟩⟩

set_option maxHeartbeats 400000 in
theorem mats_eq (v1 v2 : Value) (xs : List (List (List Int))) (X Y : Nat → Prop) (w : World) (h1 : Sl (encS (encS encU)) X w v1 xs) (h2 : Sl (encS (encS encU)) Y w v2 xs) :
    Calls Tryz.prog 49 #[v1, v2] w (Quietly w (.bool true)) := by
  have H1 := Lib.hid h1
  have H2 := Lib.hid h2
  obtain ⟨A1, c1, rfl, hc1, hc2⟩ := h1.form
  obtain ⟨A2, c2, rfl, _, _⟩ := h2.form
  clear h1 h2
  have HST : Hid (∃ n, w = w.drewN n) := Lib.hid ⟨0, rfl⟩
  go_enter Tryz.func49, Tryz.ntmps49
  go_wp2_with fail
  go_loopg [5] xs.length (fun g s5 wx => ∃ j : Nat, j + g = xs.length ∧ s5 = .int .i64 j ∧ Hid (∃ n, wx = w.drewN n))
  case atStart => exact ⟨0, by omega, rfl, HST⟩
  case round =>
    obtain ⟨j, hj, rfl, HX⟩ := hrel
    obtain ⟨n0, rfl⟩ := HX.out
    cases gk with
    | zero =>
      obtain rfl : j = xs.length := by omega
      clear HX HST
      go_wp2
      go_ret
      exact ⟨rfl, _, rfl⟩
    | succ m =>
      have hjn : (j : Int) < (xs.length : Int) := by omega
      have hj0 : (0 : Int) ≤ (j : Int) := by omega
      have hjN : j < xs.length := by omega
      obtain ⟨g1, o1, c1', t1, e1, _, _, a1, k1⟩ := H1.out.atS hjN
      injection e1 with e11 e12 e13
      subst e11 e13
      obtain ⟨g2, o2, c2', t2, e2, _, _, a2, k2⟩ := H2.out.atS hjN
      injection e2 with e21 e22 e23
      subst e21 e23
      have HN := Lib.hid (fun k => lists_eq t1 t2 xs[j] X Y (w.drewN k) (k1.kept (grownBy_drewN (World.grownBy.refl w none) k)) (k2.kept (grownBy_drewN (World.grownBy.refl w none) k)))
      obtain ⟨B1, d1, rfl, _, _⟩ := k1.form
      obtain ⟨B2, d2, rfl, _, _⟩ := k2.form
      clear HX HST e12 e22 k1 k2
      generalize xs[j].length = n1 at *
      go_wp2_with fail
      go_quiet ((go_at_call 10; exact quiet_add (HN.out _)))
      go_wp2_with fail
      go_roundg m
      case measure => omega
      case rel => exact ⟨j + 1, by omega, by go_num, Lib.hid ⟨_, rfl⟩⟩

set_option maxHeartbeats 400000 in
theorem same_eq (v1 v2 : Value) (xs : List (Int × Int)) (X Y : Nat → Prop) (w : World) (h1 : Sl encP X w v1 xs) (h2 : Sl encP Y w v2 xs) :
    Calls Tryz.prog 16 #[v1, v2] w (Quietly w (.bool true)) := by
  have H1 := Lib.hid h1
  have H2 := Lib.hid h2
  obtain ⟨A1, c1, rfl, hc1, hc2⟩ := h1.form
  obtain ⟨A2, c2, rfl, _, _⟩ := h2.form
  clear h1 h2
  have HST : Hid (∃ n, w = w.drewN n) := Lib.hid ⟨0, rfl⟩
  go_enter Tryz.func16, Tryz.ntmps16
  go_wp2_with fail
  go_loopg [5] xs.length (fun g s5 wx => ∃ j : Nat, j + g = xs.length ∧ s5 = .int .i64 j ∧ Hid (∃ n, wx = w.drewN n))
  case atStart => exact ⟨0, by omega, rfl, HST⟩
  case round =>
    obtain ⟨j, hj, rfl, HX⟩ := hrel
    obtain ⟨n0, rfl⟩ := HX.out
    cases gk with
    | zero =>
      obtain rfl : j = xs.length := by omega
      clear HX HST
      go_wp2
      go_ret
      exact ⟨rfl, _, rfl⟩
    | succ m =>
      have hjn : (j : Int) < (xs.length : Int) := by omega
      have hj0 : (0 : Int) ≤ (j : Int) := by omega
      have hjN : j < xs.length := by omega
      obtain ⟨g1, o1, c1', e1, _, _, a1, b1, u1, u2⟩ := H1.out.atP hjN
      injection e1 with e11 e12 e13
      subst e11 e13
      obtain ⟨g2, o2, c2', e2, _, _, a2, b2, _, _⟩ := H2.out.atP hjN
      injection e2 with e21 e22 e23
      subst e21 e23
      clear HX HST e12 e22
      generalize xs[j].1 = y1 at *
      generalize xs[j].2 = y2 at *
      go_wp2_with fail
      go_quiet (fail)
      go_wp2_with fail
      go_roundg m
      case measure => omega
      case rel => exact ⟨j + 1, by omega, by go_num, Lib.hid ⟨_, rfl⟩⟩

set_option maxHeartbeats 400000 in
theorem shares_eq (v1 v2 : Value) (xs : List (List (Int × Int))) (X Y : Nat → Prop) (w : World) (h1 : Sl (encS encP) X w v1 xs) (h2 : Sl (encS encP) Y w v2 xs) :
    Calls Tryz.prog 9 #[v1, v2] w (Quietly w (.bool true)) := by
  have H1 := Lib.hid h1
  have H2 := Lib.hid h2
  obtain ⟨A1, c1, rfl, hc1, hc2⟩ := h1.form
  obtain ⟨A2, c2, rfl, _, _⟩ := h2.form
  clear h1 h2
  have HST : Hid (∃ n, w = w.drewN n) := Lib.hid ⟨0, rfl⟩
  go_enter Tryz.func9, Tryz.ntmps9
  go_wp2_with fail
  go_loopg [5] xs.length (fun g s5 wx => ∃ j : Nat, j + g = xs.length ∧ s5 = .int .i64 j ∧ Hid (∃ n, wx = w.drewN n))
  case atStart => exact ⟨0, by omega, rfl, HST⟩
  case round =>
    obtain ⟨j, hj, rfl, HX⟩ := hrel
    obtain ⟨n0, rfl⟩ := HX.out
    cases gk with
    | zero =>
      obtain rfl : j = xs.length := by omega
      clear HX HST
      go_wp2
      go_ret
      exact ⟨rfl, _, rfl⟩
    | succ m =>
      have hjn : (j : Int) < (xs.length : Int) := by omega
      have hj0 : (0 : Int) ≤ (j : Int) := by omega
      have hjN : j < xs.length := by omega
      obtain ⟨g1, o1, c1', t1, e1, _, _, a1, k1⟩ := H1.out.atS hjN
      injection e1 with e11 e12 e13
      subst e11 e13
      obtain ⟨g2, o2, c2', t2, e2, _, _, a2, k2⟩ := H2.out.atS hjN
      injection e2 with e21 e22 e23
      subst e21 e23
      have HN := Lib.hid (fun k => same_eq t1 t2 xs[j] X Y (w.drewN k) (k1.kept (grownBy_drewN (World.grownBy.refl w none) k)) (k2.kept (grownBy_drewN (World.grownBy.refl w none) k)))
      obtain ⟨B1, d1, rfl, _, _⟩ := k1.form
      obtain ⟨B2, d2, rfl, _, _⟩ := k2.form
      clear HX HST e12 e22 k1 k2
      generalize xs[j].length = n1 at *
      go_wp2_with fail
      go_quiet ((go_at_call 16; exact quiet_add (HN.out _)))
      go_wp2_with fail
      go_roundg m
      case measure => omega
      case rel => exact ⟨j + 1, by omega, by go_num, Lib.hid ⟨_, rfl⟩⟩

end Go.Proofs.YtphbcfpiklmmeaaGreatDoor

namespace Go.Proofs.YtphbcfpiklmmeaaGreatDoor
open Go Go.RowKit

end Go.Proofs.YtphbcfpiklmmeaaGreatDoor

namespace Go.Proofs.YtphbcfpiklmmeaaGreatDoor
open Go Go.RowKit

abbrev ps : Par := ⟨23, 11, 4, 9, 4, 4, 1, 1, 1, 1, 1, 1⟩
end Go.Proofs.YtphbcfpiklmmeaaGreatDoor

namespace Go.Proofs.YtphbcfpiklmmeaaGreatDoor
open Go.RowKit

theorem m_may (P : Int) (h1 : 1 ≤ P) (h2 : P ≤ 2305843009213693952) : mayB P = true := by simp [mayB]; omega
theorem powI_yes (a e P : Int) (hm : mayB P = true) : powI a e P = a ^ e.toNat % P := by simp [powI, hm]
/-- What two things are that are the same modulo P and are told modulo P. -/
theorem pow_unit {P x : Int} {n : Nat} (h : Cg P (x ^ n) 1) (k : Nat) : Cg P (x ^ k) (x ^ (k % n)) := by
  have e : x ^ k = (x ^ n) ^ (k / n) * x ^ (k % n) := by
    rw [← Int.pow_mul, ← Int.pow_add, Nat.div_add_mod]
  rw [e]
  refine ((h.pow (k / n)).mul_right _).trans (Cg.of_eq ?_)
  rw [Int.one_pow, Int.one_mul]
theorem toNat_mod (e Q : Int) (he : 0 ≤ e) (hQ : 0 < Q) : (e % Q).toNat = e.toNat % Q.toNat := by
  obtain ⟨a, rfl⟩ := Int.eq_ofNat_of_zero_le he
  obtain ⟨b, rfl⟩ := Int.eq_ofNat_of_zero_le (Int.le_of_lt hQ)
  have e : ((a : Int) % (b : Int)) = ((a % b : Nat) : Int) := by simp
  rw [e, Int.toNat_natCast, Int.toNat_natCast, Int.toNat_natCast]
theorem pow_mod {P x Q e : Int} (h : Cg P (x ^ Q.toNat) 1) (he : 0 ≤ e) (hQ : 0 < Q) : Cg P (x ^ (e % Q).toNat) (x ^ e.toNat) := by
  rw [toNat_mod e Q he hQ]
  exact (pow_unit h _).symm
/-- What params that may be give. -/
structure Good (p : Par) : Prop where
  P : mayB p.P = true
  Q : mayB p.Q = true
  P2 : 2 ≤ p.P
  Q2 : 2 ≤ p.Q
  G : Cg p.P (p.G ^ p.Q.toNat) 1
  H : Cg p.P (p.H ^ p.Q.toNat) 1
  T : 1 ≤ p.T ∧ p.T ≤ 2
  N : 3 * p.T + 1 ≤ p.N ∧ p.N ≤ 7 ∧ p.N < p.Q
  K : 1 ≤ p.K ∧ p.K ≤ 2
  D : 1 ≤ p.D ∧ p.D ≤ 4
  prime : primeB p.Q = true ∧ primeB p.P = true
  M : 1 ≤ p.M ∧ p.M ≤ 1048576
  X : 1 ≤ p.X ∧ p.X ≤ 1048576
  big : 2 * (p.D * p.M * p.X + p.M) < p.Q
theorem is_cg {p : Par} {x : Int} (hP : mayB p.P = true) (h2 : 2 ≤ p.P) (h : isB p x = true) : Cg p.P (x ^ p.Q.toNat) 1 := by
  simp only [isB, Bool.and_eq_true, beq_iff_eq] at h
  have e := h.2
  rw [powI_yes _ _ _ hP] at e
  unfold Cg
  rw [e, Int.emod_eq_of_lt (by decide) (by omega)]
theorem good_of {p : Par} (h : mayP p = true) : Good p := by
  simp only [mayP, m1, m2, m3, m4, m5, m6, m7, m8, m9, m10, Bool.and_eq_true, withinB_iff, decide_eq_true_eq, beq_iff_eq] at h
  obtain ⟨⟨⟨⟨⟨⟨⟨⟨⟨⟨⟨⟨a1, a2⟩, a3⟩, a4⟩, b1, b2⟩, ⟨c1, c2⟩, c3⟩, d1⟩, ⟨e1, e2⟩, f1, f2⟩, g1⟩, ⟨i1, i2⟩, j1, j2⟩, k1⟩, l1, l2⟩, ⟨⟨n1, n2⟩, n3⟩, n4⟩ := h
  have hP := m_may p.P (by omega) a2
  have hd : p.Q ∣ p.P - 1 := Int.dvd_of_emod_eq_zero a4
  have hQ : p.Q ≤ p.P - 1 := Int.le_of_dvd (by omega) hd
  exact ⟨hP, m_may p.Q (by omega) (by omega), a1, a3, is_cg hP a1 n2, is_cg hP a1 n4, ⟨b1, b2⟩, ⟨c1, c2, c3⟩, ⟨e1, e2⟩, ⟨f1, f2⟩, ⟨l1, l2⟩, ⟨i1, i2⟩, ⟨j1, j2⟩, k1⟩

end Go.Proofs.YtphbcfpiklmmeaaGreatDoor

namespace Go.Proofs.YtphbcfpiklmmeaaGreatDoor
open Go.RowKit

theorem hasInv_of {a m x : Int} (hm : 0 < m) (h : Cg m (a * x) 1) : HasInv a m :=
  ⟨x % m, Int.emod_nonneg _ (by omega), Int.emod_lt_of_pos _ hm, ((Cg.mod m x).mul_left a).trans h⟩
theorem hasInv_mul {a b m : Int} (hm : 0 < m) (h : HasInv a m) (k : HasInv b m) : HasInv (a * b) m := by
  obtain ⟨x, _, _, hx⟩ := h
  obtain ⟨y, _, _, hy⟩ := k
  refine hasInv_of hm (x := x * y) ((Cg.of_eq ?_).trans (hx.mul hy))
  rw [Int.mul_assoc, Int.mul_assoc, ← Int.mul_assoc b, Int.mul_comm b x, Int.mul_assoc]
theorem hasInv_lin {a q k x : Int} (hq : 0 < q) (h : a * x = k * q + 1) : HasInv a q := hasInv_of hq (x := x) (Cg.of_dvd ⟨k, by rw [h, Int.mul_comm]; omega⟩)
theorem hasInv_two {q : Int} (hq : 0 < q) (h : q % 2 ≠ 0) : HasInv 2 q := hasInv_lin hq (k := 1) (x := (q + 1) / 2) (by omega)
theorem hasInv_three {q : Int} (hq : 0 < q) (h : q % 3 ≠ 0) : HasInv 3 q := by
  have h3 : q % 3 = 1 ∨ q % 3 = 2 := by omega
  rcases h3 with h3 | h3
  · exact hasInv_lin hq (k := 2) (x := (2 * q + 1) / 3) (by omega)
  · exact hasInv_lin hq (k := 1) (x := (q + 1) / 3) (by omega)
theorem hasInv_five {q : Int} (hq : 0 < q) (h : q % 5 ≠ 0) : HasInv 5 q := by
  have h5 : q % 5 = 1 ∨ q % 5 = 2 ∨ q % 5 = 3 ∨ q % 5 = 4 := by omega
  rcases h5 with h5 | h5 | h5 | h5
  · exact hasInv_lin hq (k := 4) (x := (4 * q + 1) / 5) (by omega)
  · exact hasInv_lin hq (k := 2) (x := (2 * q + 1) / 5) (by omega)
  · exact hasInv_lin hq (k := 3) (x := (3 * q + 1) / 5) (by omega)
  · exact hasInv_lin hq (k := 1) (x := (q + 1) / 5) (by omega)
/-- Numbers from 1 to below n have inverses. -/
def Apart (q : Int) (n : Int) : Prop := ∀ d, 1 ≤ d → d < n → HasInv d q
theorem prime_small {q : Int} (h : primeB q = true) : (q % 2 = 0 → q = 2) ∧ (q % 3 = 0 → q = 3 ∨ q % 2 = 0) ∧ (q % 5 = 0 → q = 5 ∨ q % 2 = 0 ∨ q % 3 = 0) := by
  unfold primeB at h
  split at h
  · cases h
  · unfold triedL at h
    refine ⟨fun h2 => ?_, fun h3 => ?_, fun h5 => ?_⟩
    · simp only [goB, h2, if_true] at h
      simpa using h
    · by_cases h2 : q % 2 = 0
      · exact .inr h2
      · simp only [goB, h2, if_false, h3, if_true] at h
        left
        split at h
        · simpa using h
        · cases h
    · by_cases h2 : q % 2 = 0
      · exact .inr (.inl h2)
      · by_cases h3 : q % 3 = 0
        · exact .inr (.inr h3)
        · simp only [goB, h2, if_false, h3, h5, if_true] at h
          left
          split at h
          · split at h
            · simpa using h
            · cases h
          · cases h
theorem may_apart {p : Par} (h : mayP p = true) : mayB p.Q = true ∧ mayB p.P = true ∧ Apart p.Q p.N ∧ 4 ≤ p.N ∧ p.N ≤ 7 ∧ p.N < p.Q ∧ 1 ≤ p.T ∧ p.T ≤ 2 ∧ 3 * p.T + 1 ≤ p.N ∧ smallB p = true ∧ 1 ≤ p.K ∧ 1 ≤ p.D := by
  simp only [mayP, m1, m2, m3, m5, m9, Bool.and_eq_true, withinB_iff, decide_eq_true_eq] at h
  obtain ⟨⟨⟨⟨⟨⟨⟨⟨⟨a1, a2⟩, a3⟩, _⟩, a5⟩, _⟩, _⟩, _⟩, a9⟩, _⟩ := h
  obtain ⟨⟨⟨p1, p2⟩, q1⟩, pq⟩ := a1
  obtain ⟨t1, t2⟩ := a2
  obtain ⟨⟨n1, n2⟩, n3⟩ := a3
  obtain ⟨⟨k1, k2⟩, d1, d2⟩ := a5
  obtain ⟨hq, hp⟩ := a9
  have hQ : p.Q ≤ 2305843009213693952 := by
    unfold primeB at hq
    split at hq
    · cases hq
    · omega
  obtain ⟨s2, s3, s5⟩ := prime_small hq
  have hq0 : 0 < p.Q := by omega
  have i2 : HasInv 2 p.Q := hasInv_two hq0 fun e => by have := s2 e; omega
  have i3 : HasInv 3 p.Q := hasInv_three hq0 fun e => by
    rcases s3 e with e | e
    · omega
    · have := s2 e; omega
  have i1 : HasInv 1 p.Q := hasInv_lin hq0 (k := 0) (x := 1) (by omega)
  refine ⟨by simp [mayB]; omega, by simp [mayB]; omega, fun d e1 e2 => ?_, by omega, n2, n3, t1, t2, n1, by simp [smallB]; omega, k1, d1⟩
  have hd : d = 1 ∨ d = 2 ∨ d = 3 ∨ d = 4 ∨ d = 5 ∨ d = 6 := by omega
  rcases hd with rfl | rfl | rfl | rfl | rfl | rfl
  · exact i1
  · exact i2
  · exact i3
  · exact hasInv_mul hq0 i2 i2
  · refine hasInv_five hq0 fun e => ?_
    rcases s5 e with e | e | e
    · omega
    · have := s2 e; omega
    · rcases s3 e with e | e
      · omega
      · have := s2 e; omega
  · exact hasInv_mul hq0 i2 i3
theorem mayB_pos {q : Int} (hq : mayB q = true) : 0 < q := by simp [mayB] at hq; exact hq.1
/-- Places from 1 to n, each once. -/
def Places (n : Int) (xs : List Int) : Prop := (∀ x ∈ xs, 1 ≤ x ∧ x ≤ n) ∧ xs.Nodup
end Go.Proofs.YtphbcfpiklmmeaaGreatDoor

namespace Go.Proofs.YtphbcfpiklmmeaaGreatDoor
open Go.RowKit

end Go.Proofs.YtphbcfpiklmmeaaGreatDoor

namespace Go.Proofs.YtphbcfpiklmmeaaGreatDoor
open Go.RowKit

theorem nodup_le : ∀ (l s : List Int), l.Nodup → (∀ x ∈ l, x ∈ s) → l.length ≤ s.length
  | [], _, _, _ => Nat.zero_le _
  | x :: l, s, hn, hs => by
    obtain ⟨h1, h2⟩ := List.nodup_cons.1 hn
    have hx := hs x (by simp)
    have := nodup_le l (s.erase x) h2 fun y hy => (List.mem_erase_of_ne (fun e => h1 (by rw [← e]; exact hy))).2 (hs y (by simp [hy]))
    rw [List.length_erase_of_mem hx] at this
    have h3 := List.length_pos_of_mem hx
    simp only [List.length_cons]
    omega
theorem Places.len {n : Int} {xs : List Int} (h : Places n xs) (hn : n ≤ 7) : xs.length ≤ 7 := by
  refine nodup_le xs [1, 2, 3, 4, 5, 6, 7] h.2 fun x hx => ?_
  · skip
    have := h.1 x hx
    have : x = 1 ∨ x = 2 ∨ x = 3 ∨ x = 4 ∨ x = 5 ∨ x = 6 ∨ x = 7 := by omega
    rcases this with rfl | rfl | rfl | rfl | rfl | rfl | rfl <;> simp
end Go.Proofs.YtphbcfpiklmmeaaGreatDoor

namespace Go.Proofs.YtphbcfpiklmmeaaGreatDoor
open Go Go.RowKit Go.Shelf

theorem two_any {pa : Option Addr} {g : Nat} {dr : Nat → Int} {TI : Nat → World → Prop} {bl : Nat → Prop} {most : Nat} (p : Par) (hT : TpP pa g p.Q dr TI bl most) (x : Int) (t k : Nat) (w : World) (hx : U64 x) (hq : U64 p.Q) (hq0 : 0 < p.Q) (ht : (t : Int) = p.T + 1) (h2 : t = 2 ∨ t = 3) (hk : k + (t * t - 1) ≤ most) (hI : TI k w) :
    Calls Tryz.prog 39 #[p.v, .int .u64 x, .func (.func 30) #[.pointer pa] #[]] w fun e w' => ∃ v, e = .returned v ∧ Sl (encS encU) (fun b => w.heap.size ≤ b) w' v (twoL x p.Q dr t k) ∧ TI (k + (t * t - 1)) w' ∧ w.grownBy w' (some g) := by
  rcases h2 with rfl | rfl
  · exact two2_any p hT x k w hx hq hq0 (by omega) hk hI
  · exact two3_any p hT x k w hx hq hq0 (by omega) hk hI
set_option maxRecDepth 100000 in
set_option maxHeartbeats 8000000 in
theorem dmake_any (p : Par) (vl : Value) (l : List (Int × Int)) (n : Nat) (X : Nat → Prop) (w : World) {pa : Option Addr} {g : Nat} {dr : Nat → Int} {TI : Nat → World → Prop} {bl : Nat → Prop} {most : Nat} (hT : TpP pa g p.Q dr TI bl most) (hp : p.ok) (hm : mayP p = true) (hTab : TabsAt w) (h : Sl encP X w vl l) (hX : ∀ b, X b → b ≠ g) (hl : (l.length : Int) = secretsI p) (hn : 1 ≤ n ∧ n ≤ 7) (k0 t : Nat) (ht : (t : Int) = p.T + 1) (hI : TI k0 w) (hmost : k0 + l.length * (2 * (t * t - 1)) ≤ most) :
    Calls Tryz.prog 12 #[p.v, vl, .int .i64 n, .pointer pa] w fun e w' => ∃ vm vr vc, e = .returned (.tuple #[.agg #[vm, vr, vc], .int .i64 0]) ∧ Sl (encS (encS encU)) (fun b => w.heap.size ≤ b) w' vm (matI p (makeFs l p.Q dr t k0 l.length) (makeBs l p.Q dr t k0 l.length)) ∧ Sl (encS (encS encP)) (fun b => w.heap.size ≤ b) w' vr ((List.range n).map fun j : Nat => rowsP p.Q (makeFs l p.Q dr t k0 l.length) (makeBs l p.Q dr t k0 l.length) t ((j : Int) + 1)) ∧ Sl (encS (encS encP)) (fun b => w.heap.size ≤ b) w' vc ((List.range n).map fun j : Nat => colsP p.Q (makeFs l p.Q dr t k0 l.length) (makeBs l p.Q dr t k0 l.length) t ((j : Int) + 1)) ∧ TI (k0 + l.length * (2 * (t * t - 1))) w' ∧ w.grownBy w' (some g) := by
  have HT := Lib.hid hT
  have HP := Lib.hid hp
  have HX := Lib.hid hX
  obtain ⟨hq, _, _, n1, n2, n3, t1, t2, t3, hs, kk1, dd1⟩ := may_apart hm
  have hsec := smallB_secrets hs
  have HQ : Hid (U64 p.Q ∧ 0 < p.Q) := Lib.hid ⟨hp.Q, mayB_pos hq⟩
  have hL10 : l.length ≤ 10 := by omega
  have ht23 : t = 2 ∨ t = 3 := by omega
  have HT23 := Lib.hid ht23
  obtain ⟨hn1, hn7⟩ := hn
  obtain ⟨dd, hdd⟩ : ∃ y, y = t * t - 1 := ⟨_, rfl⟩
  rw [← hdd] at hmost ⊢
  have HDD := Lib.hid hdd
  obtain ⟨A, c, rfl, hl1, hl2⟩ := h.form
  have hGW : g < w.heap.size := hT.old hI hT.own
  have HGW := Lib.hid hGW
  have HOB : Hid (∀ b, bl b → b < w.heap.size) := Lib.hid (fun b hb => hT.old hI hb)
  obtain ⟨w0, hw0⟩ : ∃ y, y = (w.alloc (Obj.cells p.cells 24)).alloc (Obj.cells #[.slice none 0 0, .slice none 0 0, .slice none 0 0] 45) := ⟨_, rfl⟩
  have HG0 : Hid (w.grownBy w0 none) := Lib.hid (by rw [hw0]; exact grown_two)
  have HB0 : Hid (Bk w0 w.heap.size 24 p.cells) := Lib.hid (by rw [hw0]; exact (Bk.new w _ _).alloc _)
  have HR0 : Hid (Bk w0 (w.heap.size + 1) 45 #[.slice none 0 0, .slice none 0 0, .slice none 0 0]) := Lib.hid (by
    rw [hw0]
    have h := Bk.new (w.alloc (Obj.cells p.cells 24)) 45 #[.slice none 0 0, .slice none 0 0, .slice none 0 0]
    rw [World.size_alloc] at h
    exact h)
  have HI0 : Hid (TI k0 w0) := Lib.hid (hT.keep hI HG0.out (by simp))
  have HMY := Lib.hid (fun (w' : World) (hg : w0.grownBy w' none) => may_any p w' hp (hTab.kept (HG0.out.trans hg)))
  rw [hm] at HMY
  have HMAY := Lib.hid hm
  have HSEC := Lib.hid (dsecrets_any p)
  rw [← hl] at HSEC
  have HL := Lib.hid (h.kept HG0.out)
  have HTP := Lib.hid ht
  have HMO := Lib.hid hmost
  clear hT hp hX hq n1 n2 n3 t1 t2 t3 hs kk1 dd1 hsec hm hTab h hI ht hmost hl hGW hdd ht23
  go_enter Tryz.func12, Tryz.ntmps12
  go_wp2_with fail
  rw [← hw0]
  have hp0 := HB0.out.prule
  clear hw0
  go_wp2_with fail
  refine (HMY.out _ (World.grownBy.refl _ none)).mono ?_
  rintro e w1 ⟨rfl, hg⟩
  have HG1 : Hid (w0.grownBy w1 none) := Lib.hid hg
  have hp1 := (HB0.out.grown hg (by simp)).prule
  clear hg hp0 HMY
  go_wp2_with fail
  refine (HSEC.out _).mono ?_
  rintro e w2 ⟨rfl, hg⟩
  have HG2 : Hid (w0.grownBy w2 none) := Lib.hid (HG1.out.trans hg)
  clear hg hp1 HSEC
  have hn7' : ¬ ((n : Int) > 7) := by omega
  have hn1' : ¬ ((n : Int) < 1) := by omega
  go_upto_region 5 with (fail)
  have HB2 : Hid (Bk w2 w.heap.size 24 p.cells) := Lib.hid (HB0.out.grown HG2.out (by simp))
  have HR2 : Hid (Bk w2 (w.heap.size + 1) 45 #[.slice none 0 0, .slice none 0 0, .slice none 0 0]) := Lib.hid (HR0.out.grown HG2.out (by simp))
  have HI2 : Hid (TI k0 w2) := Lib.hid (HT.out.keep HI0.out HG2.out (by simp))
  have HW2 : Hid (w.heap.size + 1 < w2.heap.size ∧ g < w.heap.size) := Lib.hid ⟨HR2.out.lt, HGW.out⟩
  have HPX : Hid (∀ wx, w2.grownBy wx (some g) → Bk wx w.heap.size 24 p.cells) := Lib.hid (fun wx hg => HB2.out.grown hg (fun e => by injection e with e; have := HW2.out.2; omega))
  have HLX : Hid (∀ wx, w2.grownBy wx (some g) → Sl encP X wx (.slice A l.length c) l) := Lib.hid (fun wx hg => (HL.out.kept HG2.out).keep hg (fun b hb e => HX.out b hb (by injection e with e)))
  have HTW : Hid (∀ (x : Int) (k : Nat) (wx : World), U64 x → k + dd ≤ most → TI k wx → Calls Tryz.prog 39 #[p.v, .int .u64 x, .func (.func 30) #[.pointer pa] #[]] wx fun e w' => ∃ v, e = .returned v ∧ Sl (encS encU) (fun b => wx.heap.size ≤ b) w' v (twoL x p.Q dr t k) ∧ TI (k + dd) w' ∧ wx.grownBy w' (some g)) := Lib.hid (fun x k wx hx hk hi => by
    rw [HDD.out] at hk ⊢
    exact two_any p HT.out x t k wx hx HQ.out.1 HQ.out.2 HTP.out HT23.out hk hi)
  obtain ⟨L, hLL⟩ : ∃ y, y = l.length := ⟨_, rfl⟩
  have HLN := Lib.hid hLL
  rw [← hLL] at hL10 hl1 HMO HLX ⊢
  clear hLL
  go_loopg [10, 11, 40] L (fun gk s10 s11 s40 wx => ∃ s : Nat, s + gk = L ∧ s40 = .int .i64 s ∧ Hid (Side (encS (encS encU)) (encS (encS encU)) w2.heap.size 32 32 (fun b => w2.heap.size ≤ b) wx s10 s11 (makeFs l p.Q dr t k0 s) (makeBs l p.Q dr t k0 s) ∧ TI (k0 + s * (2 * dd)) wx ∧ w2.grownBy wx (some g)))
  case atStart => exact ⟨0, by omega, rfl, Lib.hid ⟨⟨Acc.nil _ _ _ _ _, Acc.nil _ _ _ _ _⟩, by simpa using HI2.out, World.grownBy.refl _ _⟩⟩
  case round =>
    obtain ⟨s, hsL, rfl, HXX⟩ := hrel
    have HS0 := Lib.hid HXX.out.1
    have HI3 := Lib.hid HXX.out.2.1
    have HG3 := Lib.hid HXX.out.2.2
    clear HXX
    have hp3 := (HPX.out _ HG3.out).prule
    cases gk with
    | zero =>
      have eL : L = s := by omega
      subst eL
      have hno : ¬ ((L : Int) < (L : Int)) := by omega
      obtain ⟨F, hF⟩ : ∃ y, y = makeFs l p.Q dr t k0 L := ⟨_, rfl⟩
      obtain ⟨R, hR⟩ : ∃ y, y = makeBs l p.Q dr t k0 L := ⟨_, rfl⟩
      rw [← hF, ← hR] at HS0
      have HFL : Hid (F.length = L ∧ R.length = L) := Lib.hid (by rw [hF, hR]; simp [makeFs, makeBs])
      have HSQ : Hid ((∀ M ∈ F, SqL t M) ∧ (∀ M ∈ R, SqL t M)) := Lib.hid (by rw [hF, hR]; exact ⟨makeFs_sq _ _ _ _ _ _ (by have := HT23.out; omega), makeBs_sq _ _ _ _ _ _ (by have := HT23.out; omega)⟩)
      have HFE := Lib.hid hF
      have HRE := Lib.hid hR
      obtain ⟨AF, cF, eF, _, _⟩ := HS0.out.fst.sl.form
      obtain ⟨AR, cR, eR, _, _⟩ := HS0.out.snd.sl.form
      rw [HFL.out.1] at eF
      rw [HFL.out.2] at eR
      subst eF eR
      have HMX := Lib.hid (callsIn_wide.1 <| matrix_in 6 (Nat.le_refl _) p (.slice AF L cF) (.slice AR L cR) F R TT wr HP.out (HS0.out.fst.sl.more fun _ _ _ => trivial) (HS0.out.snd.sl.more fun _ _ _ => trivial) (by rw [HFL.out.1]; omega) (by rw [HFL.out.2]; omega) (fun M hM => ⟨by rw [(HSQ.out.1 M hM).1]; have := HT23.out; omega, fun c hc => by rw [(HSQ.out.1 M hM).2 c hc]; have := HT23.out; omega⟩) (fun M hM => ⟨by rw [(HSQ.out.2 M hM).1]; have := HT23.out; omega, fun c hc => by rw [(HSQ.out.2 M hM).2 c hc]; have := HT23.out; omega⟩))
      clear hF hR HTW HLX HMO
      go_wp2_with fail
      refine HMX.out.mono ?_
      rintro e w3 ⟨vm, rfl, hsm, hgm⟩
      obtain ⟨Am, nm, cm, rfl⟩ := hsm.shape
      obtain ⟨w4, hw4⟩ : ∃ y, y = w3.alloc (Obj.cells #[.slice Am nm cm, .slice none 0 0, .slice none 0 0] 45) := ⟨_, rfl⟩
      obtain ⟨Bd, hBd⟩ : ∃ y, y = w3.heap.size := ⟨_, rfl⟩
      have HG34 : Hid (wr.grownBy w4 none) := Lib.hid (by rw [hw4]; exact hgm.trans (World.grownBy_alloc _ _ none))
      have HBD : Hid (Bk w4 Bd 45 #[.slice Am nm cm, .slice none 0 0, .slice none 0 0]) := Lib.hid (by rw [hw4, hBd]; exact Bk.new _ _ _)
      have HSZ4 : Hid (w4.heap.size = Bd + 1 ∧ wr.heap.size ≤ Bd ∧ w2.heap.size ≤ wr.heap.size) := Lib.hid (by rw [hw4, hBd, World.size_alloc]; exact ⟨rfl, hgm.size, HG3.out.size⟩)
      have HSM : Hid (Sl (encS (encS encU)) (fun b => w2.heap.size ≤ b ∧ b < Bd) w4 (.slice Am nm cm) (matI p F R)) := Lib.hid (by
        rw [hw4, hBd]
        exact (hsm.bounded.kept (World.grownBy_alloc _ _ none)).more fun b _ hb => ⟨Nat.le_trans HG3.out.size hb.1, hb.2⟩)
      have HF4 : Hid (Sl (encS (encS encU)) (fun b => b < Bd) w4 (.slice AF L cF) F) := Lib.hid ((HS0.out.fst.sl.bounded.kept HG34.out).more fun b _ hb => Nat.lt_of_lt_of_le hb.2 HSZ4.out.2.1)
      have HR4 : Hid (Sl (encS (encS encU)) (fun b => b < Bd) w4 (.slice AR L cR) R) := Lib.hid ((HS0.out.snd.sl.bounded.kept HG34.out).more fun b _ hb => Nat.lt_of_lt_of_le hb.2 HSZ4.out.2.1)
      have HI4 : Hid (TI (k0 + L * (2 * dd)) w4) := Lib.hid (HT.out.keep HI3.out HG34.out (by simp))
      have HG4 : Hid (w2.grownBy w4 (some g)) := Lib.hid (HG3.out.trans (HG34.out.but _))
      have HPD : Hid (∀ wx, w4.grownBy wx (some Bd) → Bk wx w.heap.size 24 p.cells) := Lib.hid (fun wx hg => (HPX.out _ HG4.out).grown hg (fun e => by injection e with e; have := HW2.out; have := HSZ4.out; omega))
      have HFX : Hid (∀ wx, w4.grownBy wx (some Bd) → Sl (encS (encS encU)) (fun b => b < Bd) wx (.slice AF L cF) F) := Lib.hid (fun wx hg => HF4.out.keep hg (fun b hb e => by injection e with e; omega))
      have HRX : Hid (∀ wx, w4.grownBy wx (some Bd) → Sl (encS (encS encU)) (fun b => b < Bd) wx (.slice AR L cR) R) := Lib.hid (fun wx hg => HR4.out.keep hg (fun b hb e => by injection e with e; omega))
      have HST : Hid (∃ vr vc, Bk w4 Bd 45 #[.slice Am nm cm, vr, vc] ∧ Side (encS (encS encP)) (encS (encS encP)) w4.heap.size 31 31 (fun b => w4.heap.size ≤ b) w4 vr vc ((List.range 0).map fun k : Nat => rowsP p.Q F R t ((k : Int) + 1)) ((List.range 0).map fun k : Nat => colsP p.Q F R t ((k : Int) + 1)) ∧ w4.grownBy w4 (some Bd)) := Lib.hid ⟨_, _, HBD.out, ⟨Acc.nil _ _ _ _ _, Acc.nil _ _ _ _ _⟩, World.grownBy.refl _ _⟩
      clear hsm hgm HMX HS0 HF4 HR4 HI3 HBD HG34 HPX HG3
      go_upto_region 12 with (fail)
      rw [← hw4, ← hBd]
      clear hw4 hBd hp3
      go_loopg [15] n (fun gk s15 wx => ∃ j : Nat, j + gk = n ∧ s15 = .int .u64 ((j : Int) + 1) ∧ Hid (∃ vr vc, Bk wx Bd 45 #[.slice Am nm cm, vr, vc] ∧ Side (encS (encS encP)) (encS (encS encP)) w4.heap.size 31 31 (fun b => w4.heap.size ≤ b) wx vr vc ((List.range j).map fun k : Nat => rowsP p.Q F R t ((k : Int) + 1)) ((List.range j).map fun k : Nat => colsP p.Q F R t ((k : Int) + 1)) ∧ w4.grownBy wx (some Bd)))
      case atStart => exact ⟨0, by omega, rfl, HST⟩
      case round =>
        rename World => wj
        obtain ⟨j, hjn, rfl, HDX⟩ := hrel
        obtain ⟨vr, vc, hbd, hsd, hgd⟩ := HDX.out
        have HBd := Lib.hid hbd
        have HSd := Lib.hid hsd
        have HGd := Lib.hid hgd
        clear hbd hsd hgd HDX HST
        obtain ⟨Ar1, nr1, cr1, rfl⟩ := HSd.out.fst.sl.shape
        obtain ⟨Ac1, nc1, cc1, rfl⟩ := HSd.out.snd.sl.shape
        have hwn : IntKind.u64.wrap (n : Int) = (n : Int) := IntWalk.u64_in _ (by omega)
        cases gk with
        | zero =>
          obtain rfl : j = n := by omega
          have hno2 : ¬ ((j : Int) + 1 ≤ (j : Int)) := by omega
          have HG24 : Hid (w2.grownBy wj (some g)) := Lib.hid (HG4.out.andThen HGd.out (fun b e => .inl (by injection e with e; have := HSZ4.out; omega)))
          have HR8 : Hid (Bk wj (w.heap.size + 1) 45 #[.slice none 0 0, .slice none 0 0, .slice none 0 0]) := Lib.hid (HR2.out.grown HG24.out (fun e => by injection e with e; have := HW2.out; omega))
          have c0 := HBd.out.cell 0
          have c1 := HBd.out.cell 1
          have c2 := HBd.out.cell 2
          have r0 := HR8.out.cell 0
          have r1 := HR8.out.cell 1
          have r2 := HR8.out.cell 2
          have f8 := HR8.out.free
          simp at c0 c1 c2 r0 r1 r2
          obtain ⟨wF, hwF⟩ : ∃ x, x = ((wj.setCell ⟨w.heap.size + 1, 0, none⟩ (.slice Am nm cm)).setCell ⟨w.heap.size + 1, 1, none⟩ (.slice Ar1 nr1 cr1)).setCell ⟨w.heap.size + 1, 2, none⟩ (.slice Ac1 nc1 cc1) := ⟨_, rfl⟩
          have HF8 : Hid (Bk wF (w.heap.size + 1) 45 #[.slice Am nm cm, .slice Ar1 nr1 cr1, .slice Ac1 nc1 cc1]) := Lib.hid (by rw [hwF]; exact ((HR8.out.set 0 _).set 1 _).set 2 _)
          have HGF : Hid (wj.grownBy wF (some (w.heap.size + 1))) := Lib.hid (by rw [hwF]; exact ((grownSet wj (w.heap.size + 1) 0 _).trans (grownSet _ (w.heap.size + 1) 1 _)).trans (grownSet _ (w.heap.size + 1) 2 _))
          have HFIN : Hid (Sl (encS (encS encU)) (fun b => w.heap.size ≤ b) wF (.slice Am nm cm) (matI p (makeFs l p.Q dr t k0 L) (makeBs l p.Q dr t k0 L)) ∧ Sl (encS (encS encP)) (fun b => w.heap.size ≤ b) wF (.slice Ar1 nr1 cr1) ((List.range j).map fun k : Nat => rowsP p.Q (makeFs l p.Q dr t k0 L) (makeBs l p.Q dr t k0 L) t ((k : Int) + 1)) ∧ Sl (encS (encS encP)) (fun b => w.heap.size ≤ b) wF (.slice Ac1 nc1 cc1) ((List.range j).map fun k : Nat => colsP p.Q (makeFs l p.Q dr t k0 L) (makeBs l p.Q dr t k0 L) t ((k : Int) + 1)) ∧ TI (k0 + L * (2 * dd)) wF ∧ w.grownBy wF (some g)) := Lib.hid (by
            rw [← HFE.out, ← HRE.out]
            have h2 := HW2.out
            have h4 := HSZ4.out
            refine ⟨?_, ?_, ?_, ?_, ?_⟩
            · exact ((HSM.out.keep HGd.out (fun b hb e => by injection e with e; omega)).keep HGF.out (fun b hb e => by injection e with e; omega)).more fun b _ hb => by have := hb.1; omega
            · exact (HSd.out.fst.sl.keep HGF.out (fun b hb e => by injection e with e; have := hb.1; omega)).more fun b _ hb => by have := hb.1; omega
            · exact (HSd.out.snd.sl.keep HGF.out (fun b hb e => by injection e with e; have := hb.1; omega)).more fun b _ hb => by have := hb.1; omega
            · exact HT.out.keep (HT.out.keep HI4.out HGd.out (fun b e hb => by injection e with e; have := HOB.out b hb; omega)) HGF.out (fun b e hb => by injection e with e; have := HOB.out b hb; omega)
            · exact (((HG0.out.trans HG2.out).but _).trans HG24.out).andThen HGF.out (fun b e => .inl (by injection e with e; omega)))
          clear HBd HSd HG24 HR8 HGF HSM
          go_wp2_with fail
          rw [← hwF]
          refine ⟨rfl, _, results_deal rfl _ rfl rfl HF8.out, ?_⟩
          refine ⟨_, _, _, rfl, ?_⟩
          rw [← HLN.out]
          exact HFIN.out
        | succ m =>
          have hj1 : (j : Int) + 1 ≤ (n : Int) := by omega
          have hj0 : (0 : Int) ≤ (j : Int) := Int.natCast_nonneg j
          have HIN : Hid (Side (encS encP) (encS encP) wj.heap.size 26 26 (fun b => wj.heap.size ≤ b) wj (.slice none 0 0) (.slice none 0 0) ((List.range 0).map (rowP p.Q F R t ((j : Int) + 1))) ((List.range 0).map (colP p.Q F R t ((j : Int) + 1))) ∧ wj.grownBy wj none) := Lib.hid ⟨⟨Acc.nil _ _ _ _ _, Acc.nil _ _ _ _ _⟩, World.grownBy.refl _ _⟩
          go_upto_region 16 with (fail)
          go_loopg [16, 17, 76] L (fun gk s16 s17 s76 wx => ∃ i : Nat, i + gk = L ∧ s76 = .int .i64 i ∧ Hid (Side (encS encP) (encS encP) wj.heap.size 26 26 (fun b => wj.heap.size ≤ b) wx s16 s17 ((List.range i).map (rowP p.Q F R t ((j : Int) + 1))) ((List.range i).map (colP p.Q F R t ((j : Int) + 1))) ∧ wj.grownBy wx none))
          case atStart => exact ⟨0, by omega, rfl, HIN⟩
          case round =>
            rename World => wi
            obtain ⟨i, hiL, rfl, HY⟩ := hrel
            have HSi := Lib.hid HY.out.1
            have HGi := Lib.hid HY.out.2
            clear HY HIN
            obtain ⟨A16, n16, c16, rfl⟩ := HSi.out.fst.sl.shape
            obtain ⟨A17, n17, c17, rfl⟩ := HSi.out.snd.sl.shape
            cases gk with
            | zero =>
              have eI : L = i := by omega
              subst eI
              have hno3 : ¬ ((L : Int) < (L : Int)) := by omega
              obtain ⟨y, hy⟩ : ∃ y, y = rowsP p.Q F R t ((j : Int) + 1) := ⟨_, rfl⟩
              obtain ⟨z, hz⟩ : ∃ z, z = colsP p.Q F R t ((j : Int) + 1) := ⟨_, rfl⟩
              obtain ⟨xs, hxs⟩ : ∃ xs, xs = (List.range j).map fun k : Nat => rowsP p.Q F R t ((k : Int) + 1) := ⟨_, rfl⟩
              obtain ⟨ys, hys⟩ : ∃ ys, ys = (List.range j).map fun k : Nat => colsP p.Q F R t ((k : Int) + 1) := ⟨_, rfl⟩
              have HXS : Hid ((List.range (j + 1)).map (fun k : Nat => rowsP p.Q F R t ((k : Int) + 1)) = xs ++ [y]) := Lib.hid (by rw [hsnoc, hxs, hy])
              have HYS : Hid ((List.range (j + 1)).map (fun k : Nat => colsP p.Q F R t ((k : Int) + 1)) = ys ++ [z]) := Lib.hid (by rw [hsnoc, hys, hz])
              have HGw : Hid (wj.grownBy wi.drew none) := Lib.hid (HGi.out.trans (grown_drewN' wi 1))
              obtain ⟨hi, hhi⟩ : ∃ y, y = wi.drew.heap.size := ⟨_, rfl⟩
              have HR1 : Hid ((encS (encS encP)).rep (fun b => wj.heap.size ≤ b ∧ b < hi) wi.drew [.slice A16 n16 c16] y) := Lib.hid ⟨_, rfl, by
                rw [hy]
                unfold rowsP
                rw [HFL.out.1, hhi]
                exact ((HSi.out.fst.sl.kept (grown_drewN' wi 1)).bounded).more fun b _ hb => ⟨hb.1.1, hb.2⟩⟩
              have HR2' : Hid ((encS (encS encP)).rep (fun b => wj.heap.size ≤ b ∧ b < hi) wi.drew [.slice A17 n17 c17] z) := Lib.hid ⟨_, rfl, by
                rw [hz]
                unfold colsP
                rw [HFL.out.1, hhi]
                exact ((HSi.out.snd.sl.kept (grown_drewN' wi 1)).bounded).more fun b _ hb => ⟨hb.1.1, hb.2⟩⟩
              have HWL : Hid (∀ b, (Value.slice Ar1 nr1 cr1).ownBlock = some b → b < wj.heap.size) := Lib.hid (fun b e => (HSd.out.fst.lt b e).2)
              have HBL : Hid (∀ b, (Value.slice Ac1 nc1 cc1).ownBlock = some b → b < wj.heap.size) := Lib.hid (fun b e => (HSd.out.snd.lt b e).2)
              have HD4 : Hid (Bd < w4.heap.size ∧ w4.heap.size ≤ wj.heap.size) := Lib.hid ⟨by have := HSZ4.out; omega, HGd.out.size⟩
              rw [← hxs, ← hys] at HSd
              have HC0 : Hid ((twLt (encS (encS encP)) 45 31 w4 Bd wj.heap.size hi #[.slice Am nm cm, .slice Ar1 nr1 cr1, .slice Ac1 nc1 cc1] (.slice Ar1 nr1 cr1) (.slice Ac1 nc1 cc1) (.slice A16 n16 c16) (.slice A17 n17 c17) xs ys y z).C [] wi.drew) := Lib.hid ⟨HGd.out.trans (HGw.out.but _), HBd.out.grown HGw.out (by simp), by rw [hhi]; exact Nat.le_refl _, HR1.out, HR2'.out, HSd.out.kept HGw.out⟩
              have HLD : Hid (∀ vs W, (twLt (encS (encS encP)) 45 31 w4 Bd wj.heap.size hi #[.slice Am nm cm, .slice Ar1 nr1 cr1, .slice Ac1 nc1 cc1] (.slice Ar1 nr1 cr1) (.slice Ac1 nc1 cc1) (.slice A16 n16 c16) (.slice A17 n17 c17) xs ys y z).C vs W → W.cell? ⟨Bd, 1, none⟩ = some (.slice Ar1 nr1 cr1) ∧ W.cell? ⟨Bd, 2, none⟩ = some (.slice Ac1 nc1 cc1)) := Lib.hid (fun vs W hC => ⟨hC.2.1.cell 1, hC.2.1.cell 2⟩)
              have HSZ : Hid (∀ vs W, (twLt (encS (encS encP)) 45 31 w4 Bd wj.heap.size hi #[.slice Am nm cm, .slice Ar1 nr1 cr1, .slice Ac1 nc1 cc1] (.slice Ar1 nr1 cr1) (.slice Ac1 nc1 cc1) (.slice A16 n16 c16) (.slice A17 n17 c17) xs ys y z).C vs W → wj.heap.size ≤ W.heap.size) := Lib.hid (fun vs W hC => Nat.le_trans (by rw [hhi]; exact HGw.out.size) hC.2.2.1)
              have HLX1 : Hid ((xs.length + 1) * 24 ≤ 140737488355328) := Lib.hid (by rw [hxs]; simp; omega)
              have HLX2 : Hid ((ys.length + 1) * 24 ≤ 140737488355328) := Lib.hid (by rw [hys]; simp; omega)
              clear hy hz hxs hys hhi HR1 HR2' HSi HBd
              go_upto_region 21 with (fail)
              refine wp_region_late (twLt (encS (encS encP)) 45 31 w4 Bd wj.heap.size hi #[.slice Am nm cm, .slice Ar1 nr1 cr1, .slice Ac1 nc1 cc1] (.slice Ar1 nr1 cr1) (.slice Ac1 nc1 cc1) (.slice A16 n16 c16) (.slice A17 n17 c17) xs ys y z) [4, 9] 11 (by kernel_rfl) (by kernel_rfl) (by kernel_rfl) HC0.out ?_
              -- op 0 (slot 120): fieldAddr
              refine LateR.mono (Qv.eq (.pointer (some ⟨Bd, 1, none⟩))) [] (by kernel_rfl) (by rfl) rfl (fun vs w' hC => ?_) ?_
              · refine askl_do rfl fun K hK => ?_
                go_simp
                exact hK _ _ rfl ⟨rfl, World.grownBy.refl _ none⟩
              -- op 1 (slot 121): load
              refine LateR.mono (Qv.eq (.slice Ar1 nr1 cr1)) [(0, 120)] (by kernel_rfl) (by rfl) rfl (fun vs w' hC => ?_) ?_
              · rintro _ rfl
                refine askl_do rfl fun K hK => ?_
                obtain ⟨q0, q1⟩ := HLD.out vs w' hC
                go_simp
                exact hK _ _ rfl ⟨rfl, World.grownBy.refl _ none⟩
              -- op 2 (slot 122): move
              refine LateR.mono (Qv.eq (.slice A16 n16 c16)) [] (by kernel_rfl) (by rfl) rfl (fun vs w' hC => ?_) ?_
              · refine askl_do rfl fun K hK => ?_
                go_simp
                exact hK _ _ rfl ⟨rfl, World.grownBy.refl _ none⟩
              -- op 3 (slot 123): buildSlice
              refine LateR.mono (twQ HWL.out HBL.out 31 (.slice A16 n16 c16)) [(2, 122)] (by kernel_rfl) (by rfl) rfl (fun vs w' hC => ?_) ?_
              · rintro _ rfl
                refine askl_do rfl fun K hK => ?_
                have hsz := HSZ.out vs w' hC
                go_simp
                exact hK _ _ rfl ⟨⟨_, rfl, hsz, Bk.new w' _ _⟩, World.grownBy_alloc w' _ none⟩
              -- op 4 (slot 124): call
              refine LateR.turn 0 [(1, 121), (3, 123)] (by kernel_rfl) rfl (fun vs w' hl hC => ?_) ?_
              · rintro _ rfl
                intro x123 h123
                have h123 : BlkQ wj.heap.size 31 (.slice A16 n16 c16) x123 w' := h123
                obtain ⟨b123, e123, hb123, hk123⟩ := h123
                subst e123
                refine askl_do rfl fun K hK => ?_
                obtain rfl : vs = [] := List.eq_nil_of_length_eq_zero hl
                have hsz := HSZ.out _ w' hC
                have hS1 : Side (encS (encS encP)) (encS (encS encP)) w4.heap.size 31 31 (fun b => w4.heap.size ≤ b) w' (.slice Ar1 nr1 cr1) (.slice Ac1 nc1 cc1) xs ys := hC.2.2.2.2.2
                refine pushAt_core (E := encS (encS encP)) (y := y) el_pairs2 hS1.fst (twLt_rep1 hC HWL.out HBL.out HD4.out.2) (Bk.one hk123) HLX1.out (Nat.le_trans HD4.out.2 hsz) (hS1.new1 (fun b hb => Nat.le_trans HD4.out.2 (Nat.le_trans hsz hb))) (.tmp 121) (.tmp 123) rfl rfl rfl ?_
                intro v3 w3 ha hgr hm
                exact hK _ _ rfl ⟨hgr, twLt_one hC ha hgr hm HWL.out HD4.out.1⟩
              -- op 5 (slot 125): fieldAddr
              refine LateR.mono (Qv.eq (.pointer (some ⟨Bd, 2, none⟩))) [] (by kernel_rfl) (by rfl) rfl (fun vs w' hC => ?_) ?_
              · refine askl_do rfl fun K hK => ?_
                go_simp
                exact hK _ _ rfl ⟨rfl, World.grownBy.refl _ none⟩
              -- op 6 (slot 126): load
              refine LateR.mono (Qv.eq (.slice Ac1 nc1 cc1)) [(5, 125)] (by kernel_rfl) (by rfl) rfl (fun vs w' hC => ?_) ?_
              · rintro _ rfl
                refine askl_do rfl fun K hK => ?_
                obtain ⟨q0, q1⟩ := HLD.out vs w' hC
                go_simp
                exact hK _ _ rfl ⟨rfl, World.grownBy.refl _ none⟩
              -- op 7 (slot 127): move
              refine LateR.mono (Qv.eq (.slice A17 n17 c17)) [] (by kernel_rfl) (by rfl) rfl (fun vs w' hC => ?_) ?_
              · refine askl_do rfl fun K hK => ?_
                go_simp
                exact hK _ _ rfl ⟨rfl, World.grownBy.refl _ none⟩
              -- op 8 (slot 128): buildSlice
              refine LateR.mono (twQ HWL.out HBL.out 31 (.slice A17 n17 c17)) [(7, 127)] (by kernel_rfl) (by rfl) rfl (fun vs w' hC => ?_) ?_
              · rintro _ rfl
                refine askl_do rfl fun K hK => ?_
                have hsz := HSZ.out vs w' hC
                go_simp
                exact hK _ _ rfl ⟨⟨_, rfl, hsz, Bk.new w' _ _⟩, World.grownBy_alloc w' _ none⟩
              -- op 9 (slot 129): call
              refine LateR.turn 1 [(6, 126), (8, 128)] (by kernel_rfl) rfl (fun vs w' hl hC => ?_) ?_
              · rintro _ rfl
                intro x128 h128
                have h128 : BlkQ wj.heap.size 31 (.slice A17 n17 c17) x128 w' := h128
                obtain ⟨b128, e128, hb128, hk128⟩ := h128
                subst e128
                refine askl_do rfl fun K hK => ?_
                obtain ⟨u, rfl⟩ : ∃ u, vs = [u] := List.length_eq_one_iff.1 hl
                have hsz := HSZ.out _ w' hC
                have hS1 : Side (encS (encS encP)) (encS (encS encP)) w4.heap.size 31 31 (fun b => w4.heap.size ≤ b) w' u (.slice Ac1 nc1 cc1) _ _ := hC.2.2.2.2.2.1
                refine pushAt_core (E := encS (encS encP)) (y := z) el_pairs2 hS1.snd (twLt_rep2 hC HBL.out HD4.out.2) (Bk.one hk128) HLX2.out (Nat.le_trans HD4.out.2 hsz) (hS1.new2 (fun b hb => Nat.le_trans HD4.out.2 (Nat.le_trans hsz hb))) (.tmp 126) (.tmp 128) rfl rfl rfl ?_
                intro v3 w3 ha hgr hm
                exact hK _ _ rfl ⟨hgr, twLt_two hC ha hgr hm HBL.out HD4.out.1⟩
              -- op 10 (slot 130): fieldAddr
              refine LateR.mono (Qv.eq (.pointer (some ⟨Bd, 1, none⟩))) [] (by kernel_rfl) (by rfl) rfl (fun vs w' hC => ?_) ?_
              · refine askl_do rfl fun K hK => ?_
                go_simp
                exact hK _ _ rfl ⟨rfl, World.grownBy.refl _ none⟩
              intro vs w5 hvl hC5
              obtain ⟨u, u2, rfl⟩ : ∃ u u2, vs = [u, u2] := by
                match vs, hvl with
                | [u, u2], _ => exact ⟨u, u2, rfl⟩
              intro y0 k0 y1 k1 y2 k2 y3 k3 y4 k4 y5 k5 y6 k6 y7 k7 y8 k8 y9 k9 y10 k10
              show wpList Tryz.prog _ _ _ _ w5
              simp only [Act.put, List.setIfInBounds_toArray, List.set_cons_zero, List.set_cons_succ]
              have e4 : y4 = u := by have : some u = some y4 := k4; injection this with this; exact this.symm
              have e9 : y9 = u2 := by have : some u2 = some y9 := k9; injection this with this; exact this.symm
              have e10 : y10 = .pointer (some ⟨Bd, 1, none⟩) := k10
              subst e4 e9 e10
              have HE5 := Lib.hid (twLt_end hC5 HD4.out.1)
              have hS5 : Side (encS (encS encP)) (encS (encS encP)) w4.heap.size 31 31 (fun b => w4.heap.size ≤ b) w5 y4 y9 _ _ := hC5.2.2.2.2.2
              obtain ⟨Au, nu, cu, rfl⟩ := hS5.fst.sl.shape
              obtain ⟨Av, nv, cv, rfl⟩ := hS5.snd.sl.shape
              have d0 := hC5.2.1.cell 0
              have d1 := hC5.2.1.cell 1
              have d2 := hC5.2.1.cell 2
              have fd := hC5.2.1.free
              simp at d0 d1 d2
              have HFIN : Hid (∃ vr vc, Bk ((w5.setCell ⟨Bd, 1, none⟩ (.slice Au nu cu)).setCell ⟨Bd, 2, none⟩ (.slice Av nv cv)) Bd 45 #[.slice Am nm cm, vr, vc] ∧ Side (encS (encS encP)) (encS (encS encP)) w4.heap.size 31 31 (fun b => w4.heap.size ≤ b) ((w5.setCell ⟨Bd, 1, none⟩ (.slice Au nu cu)).setCell ⟨Bd, 2, none⟩ (.slice Av nv cv)) vr vc ((List.range (j + 1)).map fun k : Nat => rowsP p.Q F R t ((k : Int) + 1)) ((List.range (j + 1)).map fun k : Nat => colsP p.Q F R t ((k : Int) + 1)) ∧ w4.grownBy ((w5.setCell ⟨Bd, 1, none⟩ (.slice Au nu cu)).setCell ⟨Bd, 2, none⟩ (.slice Av nv cv)) (some Bd)) := Lib.hid (by
                rw [HXS.out, HYS.out]
                exact ⟨_, _, HE5.out⟩)
              clear hC5 hS5 HE5 k0 k1 k2 k3 k4 k5 k6 k7 k8 k9 k10 HLD HSZ HC0 HSd
              have hwj : IntKind.u64.wrap ((j : Int) + 1 + 1) = (j : Int) + 1 + 1 := IntWalk.u64_in _ (by omega)
              go_wp2_with fail
              go_roundg m
              case measure => omega
              case rel => exact ⟨j + 1, by omega, by go_num, HFIN⟩
            | succ q =>
              have hiI : (i : Int) < (L : Int) := by omega
              have hi0 : (0 : Int) ≤ (i : Int) := Int.natCast_nonneg i
              have hiF : i < F.length := by rw [HFL.out.1]; omega
              have hiR : i < R.length := by rw [HFL.out.2]; omega
              obtain ⟨gF, oF, cF', uF, eF, q1, q2, hcF, hslF⟩ := (HFX.out _ HGd.out).atS hiF
              clear q1 q2
              injection eF with eF1 eF2 eF3
              clear eF2
              subst eF1 eF3
              obtain ⟨gR, oR, cR', uR, eR, q1, q2, hcR, hslR⟩ := (HRX.out _ HGd.out).atS hiR
              clear q1 q2
              injection eR with eR1 eR2 eR3
              clear eR2
              subst eR1 eR3
              obtain ⟨Af, cf, ef, q1, q2⟩ := hslF.form
              clear q1 q2
              obtain ⟨Ab, cb, eb, q1, q2⟩ := hslR.form
              clear q1 q2
              have HS1 : Hid (SqL t F[i]) := Lib.hid (HSQ.out.1 _ (List.getElem_mem hiF))
              have HS2 : Hid (SqL t R[i]) := Lib.hid (HSQ.out.2 _ (List.getElem_mem hiR))
              rw [HS1.out.1] at ef
              rw [HS2.out.1] at eb
              subst ef eb
              have HN16 : Hid ((List.range (i + 1)).map (rowP p.Q F R t ((j : Int) + 1)) = (List.range i).map (rowP p.Q F R t ((j : Int) + 1)) ++ [zipP (rowI p.Q F[i] ((j : Int) + 1)) (rowI p.Q R[i] ((j : Int) + 1)) t]) := Lib.hid (by
                rw [hsnoc]
                unfold rowP
                rw [List.getElem?_eq_getElem hiF, List.getElem?_eq_getElem hiR]
                rfl)
              have HN17 : Hid ((List.range (i + 1)).map (colP p.Q F R t ((j : Int) + 1)) = (List.range i).map (colP p.Q F R t ((j : Int) + 1)) ++ [zipP (colV p.Q F[i] ((j : Int) + 1)) (colV p.Q R[i] ((j : Int) + 1)) t]) := Lib.hid (by
                rw [hsnoc]
                unfold colP
                rw [List.getElem?_eq_getElem hiF, List.getElem?_eq_getElem hiR]
                rfl)
              have HUX : Hid (U64 ((j : Int) + 1)) := Lib.hid ⟨by omega, by omega⟩
              have HT100 : Hid (t ≤ 3) := Lib.hid (by have := HT23.out; omega)
              have HRo1 : Hid (∀ W, wj.grownBy W none → Calls Tryz.prog 42 #[.slice Af t cf, .int .u64 ((j : Int) + 1), .int .u64 p.Q] W (Gives encU (fun b => W.heap.size ≤ b) W (rowI p.Q F[i] ((j : Int) + 1)))) := Lib.hid (fun W hW => callsIn_wide.1 (row_in 6 (Nat.le_refl _) _ _ _ _ _ W (hslF.kept hW) HUX.out (by rw [HS1.out.1]; have := HT100.out; omega) (fun c hc => by rw [HS1.out.2 c hc]; have := HT100.out; omega)))
              have HRo2 : Hid (∀ W, wj.grownBy W none → Calls Tryz.prog 42 #[.slice Ab t cb, .int .u64 ((j : Int) + 1), .int .u64 p.Q] W (Gives encU (fun b => W.heap.size ≤ b) W (rowI p.Q R[i] ((j : Int) + 1)))) := Lib.hid (fun W hW => callsIn_wide.1 (row_in 6 (Nat.le_refl _) _ _ _ _ _ W (hslR.kept hW) HUX.out (by rw [HS2.out.1]; have := HT100.out; omega) (fun c hc => by rw [HS2.out.2 c hc]; have := HT100.out; omega)))
              have HCo1 : Hid (∀ W, wj.grownBy W none → Calls Tryz.prog 43 #[.slice Af t cf, .int .u64 ((j : Int) + 1), .int .u64 p.Q] W (Gives encU (fun b => W.heap.size ≤ b) W (colV p.Q F[i] ((j : Int) + 1)))) := Lib.hid (fun W hW => col_any _ _ _ _ _ W (hslF.kept hW) HUX.out (by rw [HS1.out.1]; have := HT100.out; omega))
              have HCo2 : Hid (∀ W, wj.grownBy W none → Calls Tryz.prog 43 #[.slice Ab t cb, .int .u64 ((j : Int) + 1), .int .u64 p.Q] W (Gives encU (fun b => W.heap.size ≤ b) W (colV p.Q R[i] ((j : Int) + 1)))) := Lib.hid (fun W hW => col_any _ _ _ _ _ W (hslR.kept hW) HUX.out (by rw [HS2.out.1]; have := HT100.out; omega))
              obtain ⟨a1, ha1⟩ : ∃ y, y = rowI p.Q F[i] ((j : Int) + 1) := ⟨_, rfl⟩
              obtain ⟨a2, ha2⟩ : ∃ y, y = rowI p.Q R[i] ((j : Int) + 1) := ⟨_, rfl⟩
              obtain ⟨b1, hb1⟩ : ∃ y, y = colV p.Q F[i] ((j : Int) + 1) := ⟨_, rfl⟩
              obtain ⟨b2, hb2⟩ : ∃ y, y = colV p.Q R[i] ((j : Int) + 1) := ⟨_, rfl⟩
              have HL1 : Hid (a1.length = t ∧ a2.length = t ∧ b1.length = t ∧ b2.length = t) := Lib.hid ⟨by rw [ha1]; exact rowI_sqL HS1.out _ _, by rw [ha2]; exact rowI_sqL HS2.out _ _, by rw [hb1]; exact colV_sqL HS1.out _ _, by rw [hb2]; exact colV_sqL HS2.out _ _⟩
              rw [← ha1] at HRo1 HN16
              rw [← ha2] at HRo2 HN16
              rw [← hb1] at HCo1 HN17
              rw [← hb2] at HCo2 HN17
              obtain ⟨yr, hyr⟩ : ∃ y, y = zipP a1 a2 t := ⟨_, rfl⟩
              obtain ⟨yc, hyc⟩ : ∃ y, y = zipP b1 b2 t := ⟨_, rfl⟩
              have HPr : Hid (∀ v1 v2 W, Sl encU TT W v1 a1 → Sl encU TT W v2 a2 → Calls Tryz.prog 41 #[v1, v2] W (Gives encP (fun b => W.heap.size ≤ b) W yr)) := Lib.hid (fun v1 v2 W h1 h2 => by rw [hyr]; exact dpairs2_any v1 v2 a1 a2 t TT TT W h1 h2 HL1.out.1 HL1.out.2.1 (by have := HT100.out; omega))
              have HPc : Hid (∀ v1 v2 W, Sl encU TT W v1 b1 → Sl encU TT W v2 b2 → Calls Tryz.prog 41 #[v1, v2] W (Gives encP (fun b => W.heap.size ≤ b) W yc)) := Lib.hid (fun v1 v2 W h1 h2 => by rw [hyc]; exact dpairs2_any v1 v2 b1 b2 t TT TT W h1 h2 HL1.out.2.2.1 HL1.out.2.2.2 (by have := HT100.out; omega))
              rw [← hyr] at HN16
              rw [← hyc] at HN17
              have hbp := HPD.out _ HGd.out
              have HLD : Hid (∀ W, wj.grownBy W none → W.cell? ⟨w.heap.size, 1, none⟩ = some (.int .u64 p.Q) ∧ W.cell? ⟨gF, oF + i, none⟩ = some (.slice Af t cf) ∧ W.cell? ⟨gR, oR + i, none⟩ = some (.slice Ab t cb)) := Lib.hid (fun W hW => ⟨(hbp.grown hW (by simp)).cell 1, cellK hcF hW (by simp), cellK hcR hW (by simp)⟩)
              have HLN16 : Hid ((((List.range i).map (rowP p.Q F R t ((j : Int) + 1))).length + 1) * 24 ≤ 140737488355328) := Lib.hid (by simp; omega)
              have HLN17 : Hid ((((List.range i).map (colP p.Q F R t ((j : Int) + 1))).length + 1) * 24 ≤ 140737488355328) := Lib.hid (by simp; omega)
              have HGw : Hid (wj.grownBy wi.drew none) := Lib.hid (HGi.out.trans (grown_drewN' wi 1))
              have HSw := Lib.hid (HSi.out.kept (grown_drewN' wi 1))
              obtain ⟨N1, hN1⟩ : ∃ y, y = wi.drew.heap.size := ⟨_, rfl⟩
              have HN1 : Hid (N1 = wi.drew.heap.size) := Lib.hid hN1
              clear ha1 ha2 hb1 hb2 hyr hyc hbp hcF hcR hslF hslR hN1 HSi HGi HS1 HS2
              clear hiF hiR
              go_upto_region 18 with (fail)
              refine wp_region_mono 19 (by kernel_rfl) (by kernel_rfl) ?_
              -- op 0 (slot 79): move
              refine MonoR.step (Pv.eq (.slice A16 n16 c16)) [] (by kernel_rfl) (fun w' hw' => ?_) ?_
              · refine ask_do rfl fun K hK => ?_
                go_simp
                exact hK _ _ rfl rfl (World.grownBy.refl _ none)
              -- op 1 (slot 80): move
              refine MonoR.step (Pv.eq (.slice (some ⟨gF, oF, none⟩) L cF)) [] (by kernel_rfl) (fun w' hw' => ?_) ?_
              · refine ask_do rfl fun K hK => ?_
                go_simp
                exact hK _ _ rfl rfl (World.grownBy.refl _ none)
              -- op 2 (slot 81): move
              refine MonoR.step (Pv.eq (.int .i64 (i : Int))) [] (by kernel_rfl) (fun w' hw' => ?_) ?_
              · refine ask_do rfl fun K hK => ?_
                go_simp
                exact hK _ _ rfl rfl (World.grownBy.refl _ none)
              -- op 3 (slot 82): indexAddr
              refine MonoR.step (Pv.eq (.pointer (some ⟨gF, oF + i, none⟩))) [(1, 80), (2, 81)] (by kernel_rfl) (fun w' hw' => ?_) ?_
              · rintro _ rfl
                rintro _ rfl
                refine ask_do rfl fun K hK => ?_
                go_simp
                exact hK _ _ rfl rfl (World.grownBy.refl _ none)
              -- op 4 (slot 83): load
              refine MonoR.step (Pv.eq (.slice Af t cf)) [(3, 82)] (by kernel_rfl) (fun w' hw' => ?_) ?_
              · rintro _ rfl
                refine ask_do rfl fun K hK => ?_
                obtain ⟨q0, q1, q2⟩ := HLD.out w' (HGw.out.trans hw')
                go_simp
                exact hK _ _ rfl rfl (World.grownBy.refl _ none)
              -- op 5 (slot 84): move
              refine MonoR.step (Pv.eq (.int .u64 ((j : Int) + 1))) [] (by kernel_rfl) (fun w' hw' => ?_) ?_
              · refine ask_do rfl fun K hK => ?_
                go_simp
                exact hK _ _ rfl rfl (World.grownBy.refl _ none)
              -- op 6 (slot 85): fieldAddr
              refine MonoR.step (Pv.eq (.pointer (some ⟨w.heap.size, 1, none⟩))) [] (by kernel_rfl) (fun w' hw' => ?_) ?_
              · refine ask_do rfl fun K hK => ?_
                go_simp
                exact hK _ _ rfl rfl (World.grownBy.refl _ none)
              -- op 7 (slot 86): load
              refine MonoR.step (Pv.eq (.int .u64 p.Q)) [(6, 85)] (by kernel_rfl) (fun w' hw' => ?_) ?_
              · rintro _ rfl
                refine ask_do rfl fun K hK => ?_
                obtain ⟨q0, q1, q2⟩ := HLD.out w' (HGw.out.trans hw')
                go_simp
                exact hK _ _ rfl rfl (World.grownBy.refl _ none)
              -- op 8 (slot 87): call
              refine MonoR.step (slU a1) [(4, 83), (5, 84), (7, 86)] (by kernel_rfl) (fun w' hw' => ?_) ?_
              · rintro _ rfl
                rintro _ rfl
                rintro _ rfl
                refine ask_do rfl fun K hK => ?_
                go_simp
                refine (HRo1.out w' (HGw.out.trans hw')).mono ?_
                rintro e w3 ⟨v3, rfl, hs3, hg3⟩
                exact hK _ _ rfl (hs3.more fun _ _ _ => trivial) hg3
              -- op 9 (slot 88): move
              refine MonoR.step (Pv.eq (.slice (some ⟨gR, oR, none⟩) L cR)) [] (by kernel_rfl) (fun w' hw' => ?_) ?_
              · refine ask_do rfl fun K hK => ?_
                go_simp
                exact hK _ _ rfl rfl (World.grownBy.refl _ none)
              -- op 10 (slot 89): move
              refine MonoR.step (Pv.eq (.int .i64 (i : Int))) [] (by kernel_rfl) (fun w' hw' => ?_) ?_
              · refine ask_do rfl fun K hK => ?_
                go_simp
                exact hK _ _ rfl rfl (World.grownBy.refl _ none)
              -- op 11 (slot 90): indexAddr
              refine MonoR.step (Pv.eq (.pointer (some ⟨gR, oR + i, none⟩))) [(9, 88), (10, 89)] (by kernel_rfl) (fun w' hw' => ?_) ?_
              · rintro _ rfl
                rintro _ rfl
                refine ask_do rfl fun K hK => ?_
                go_simp
                exact hK _ _ rfl rfl (World.grownBy.refl _ none)
              -- op 12 (slot 91): load
              refine MonoR.step (Pv.eq (.slice Ab t cb)) [(11, 90)] (by kernel_rfl) (fun w' hw' => ?_) ?_
              · rintro _ rfl
                refine ask_do rfl fun K hK => ?_
                obtain ⟨q0, q1, q2⟩ := HLD.out w' (HGw.out.trans hw')
                go_simp
                exact hK _ _ rfl rfl (World.grownBy.refl _ none)
              -- op 13 (slot 92): move
              refine MonoR.step (Pv.eq (.int .u64 ((j : Int) + 1))) [] (by kernel_rfl) (fun w' hw' => ?_) ?_
              · refine ask_do rfl fun K hK => ?_
                go_simp
                exact hK _ _ rfl rfl (World.grownBy.refl _ none)
              -- op 14 (slot 93): fieldAddr
              refine MonoR.step (Pv.eq (.pointer (some ⟨w.heap.size, 1, none⟩))) [] (by kernel_rfl) (fun w' hw' => ?_) ?_
              · refine ask_do rfl fun K hK => ?_
                go_simp
                exact hK _ _ rfl rfl (World.grownBy.refl _ none)
              -- op 15 (slot 94): load
              refine MonoR.step (Pv.eq (.int .u64 p.Q)) [(14, 93)] (by kernel_rfl) (fun w' hw' => ?_) ?_
              · rintro _ rfl
                refine ask_do rfl fun K hK => ?_
                obtain ⟨q0, q1, q2⟩ := HLD.out w' (HGw.out.trans hw')
                go_simp
                exact hK _ _ rfl rfl (World.grownBy.refl _ none)
              -- op 16 (slot 95): call
              refine MonoR.step (slU a2) [(12, 91), (13, 92), (15, 94)] (by kernel_rfl) (fun w' hw' => ?_) ?_
              · rintro _ rfl
                rintro _ rfl
                rintro _ rfl
                refine ask_do rfl fun K hK => ?_
                go_simp
                refine (HRo2.out w' (HGw.out.trans hw')).mono ?_
                rintro e w3 ⟨v3, rfl, hs3, hg3⟩
                exact hK _ _ rfl (hs3.more fun _ _ _ => trivial) hg3
              -- op 17 (slot 96): call
              refine MonoR.step (slP N1 yr) [(8, 87), (16, 95)] (by kernel_rfl) (fun w' hw' => ?_) ?_
              · intro x87 h87
                have h87 : Sl encU TT w' x87 a1 := h87
                obtain ⟨A87, c87, e87, k87, l87⟩ := h87.form
                subst e87
                intro x95 h95
                have h95 : Sl encU TT w' x95 a2 := h95
                obtain ⟨A95, c95, e95, k95, l95⟩ := h95.form
                subst e95
                refine ask_do rfl fun K hK => ?_
                go_simp
                refine (HPr.out _ _ w' h87 h95).mono ?_
                rintro e w3 ⟨v3, rfl, hs3, hg3⟩
                exact hK _ _ rfl (hs3.more fun b _ hb => Nat.le_trans (by rw [HN1.out]; exact hw'.size) hb) hg3
              -- op 18 (slot 97): buildSlice
              refine MonoR.step (blkP N1 yr) [(17, 96)] (by kernel_rfl) (fun w' hw' => ?_) ?_
              · intro x96 h96
                have h96 : Sl encP (fun b => N1 ≤ b) w' x96 yr := h96
                obtain ⟨A96, c96, e96, k96, l96⟩ := h96.form
                subst e96
                refine ask_do rfl fun K hK => ?_
                go_simp
                exact hK _ _ rfl ⟨_, _, _, _, rfl, Bk.new w' _ _, h96.kept (World.grownBy_alloc w' _ none)⟩ (World.grownBy_alloc w' _ none)
              
              intro w5 hw5
              intro y0 k0 y1 k1 y2 k2 y3 k3 y4 k4 y5 k5 y6 k6 y7 k7 y8 k8 y9 k9 y10 k10 y11 k11 y12 k12 y13 k13 y14 k14 y15 k15 y16 k16 y17 k17 y18 k18
              show wpList Tryz.prog _ _ _ _ w5
              simp only [Act.put, List.setIfInBounds_toArray, List.set_cons_zero, List.set_cons_succ]
              have e0 : y0 = .slice A16 n16 c16 := k0
              subst e0
              have k18' : ∃ A n c b, y18 = .slice (some ⟨b, 0, none⟩) 1 1 ∧ Bk w5 b 26 #[.slice A n c] ∧ Sl encP (fun b => N1 ≤ b) w5 (.slice A n c) yr := k18
              obtain ⟨Ay, ny, cy, by', ey, hky, hsy⟩ := k18'
              subst ey
              have HS5 := Lib.hid (HSw.out.kept hw5)
              have HG5 : Hid (wj.grownBy w5 none) := Lib.hid (HGw.out.trans hw5)
              have HZ5 : Hid (wj.heap.size ≤ w5.heap.size) := Lib.hid HG5.out.size
              have HKY := Lib.hid hky
              have HREP : Hid ((encS encP).rep (fun b => (wj.heap.size ≤ b ∧ some b ≠ (Value.slice A17 n17 c17).ownBlock) ∧ some b ≠ (Value.slice A16 n16 c16).ownBlock) w5 [.slice Ay ny cy] yr) := Lib.hid ⟨_, rfl, hsy.more fun b _ hb => by
                rw [HN1.out] at hb
                exact ⟨⟨Nat.le_trans HGw.out.size hb, fun e => absurd hb (Nat.not_le_of_lt (HSw.out.snd.lt b e.symm).2)⟩, fun e => absurd hb (Nat.not_le_of_lt (HSw.out.fst.lt b e.symm).2)⟩⟩
              clear hky hsy k0 k1 k2 k3 k4 k5 k6 k7 k8 k9 k10 k11 k12 k13 k14 k15 k16 k17 k18 hw5 HSw HGw HN1
              refine wpList_plain rfl fun K hK => ?_
              refine pushAt_core (E := encS encP) (y := yr) el_pairs HS5.out.fst HREP.out (Bk.one HKY.out) HLN16.out HZ5.out (HS5.out.new1 (fun _ h => Nat.le_trans HZ5.out h)) (.tmp 79) (.tmp 97) rfl rfl rfl ?_
              intro v6 w6 ha hgr hm
              refine hK _ _ ?_
              clear hK
              have HS6 := Lib.hid ((HS5.out.one ha hgr hm).kept (grown_drewN' w6 1))
              have HG6 : Hid (wj.grownBy w6.drew none) := Lib.hid ((grown_up HG5.out hgr (fun b e => (HS5.out.fst.lt b e).1)).trans (grown_drewN' w6 1))
              rw [← HN16.out] at HS6
              obtain ⟨A18, n18, c18, rfl⟩ := HS6.out.fst.sl.shape
              clear ha hgr hm HS5 HG5 HREP HKY HZ5 HN16
              obtain ⟨N2, hN2⟩ : ∃ y, y = w6.drew.heap.size := ⟨_, rfl⟩
              have HN2 : Hid (N2 = w6.drew.heap.size) := Lib.hid hN2
              clear hN2
              go_upto_region 19 with (fail)
              refine wp_region_mono 19 (by kernel_rfl) (by kernel_rfl) ?_
              -- op 0 (slot 99): move
              refine MonoR.step (Pv.eq (.slice A17 n17 c17)) [] (by kernel_rfl) (fun w' hw' => ?_) ?_
              · refine ask_do rfl fun K hK => ?_
                go_simp
                exact hK _ _ rfl rfl (World.grownBy.refl _ none)
              -- op 1 (slot 100): move
              refine MonoR.step (Pv.eq (.slice (some ⟨gF, oF, none⟩) L cF)) [] (by kernel_rfl) (fun w' hw' => ?_) ?_
              · refine ask_do rfl fun K hK => ?_
                go_simp
                exact hK _ _ rfl rfl (World.grownBy.refl _ none)
              -- op 2 (slot 101): move
              refine MonoR.step (Pv.eq (.int .i64 (i : Int))) [] (by kernel_rfl) (fun w' hw' => ?_) ?_
              · refine ask_do rfl fun K hK => ?_
                go_simp
                exact hK _ _ rfl rfl (World.grownBy.refl _ none)
              -- op 3 (slot 102): indexAddr
              refine MonoR.step (Pv.eq (.pointer (some ⟨gF, oF + i, none⟩))) [(1, 100), (2, 101)] (by kernel_rfl) (fun w' hw' => ?_) ?_
              · rintro _ rfl
                rintro _ rfl
                refine ask_do rfl fun K hK => ?_
                go_simp
                exact hK _ _ rfl rfl (World.grownBy.refl _ none)
              -- op 4 (slot 103): load
              refine MonoR.step (Pv.eq (.slice Af t cf)) [(3, 102)] (by kernel_rfl) (fun w' hw' => ?_) ?_
              · rintro _ rfl
                refine ask_do rfl fun K hK => ?_
                obtain ⟨q0, q1, q2⟩ := HLD.out w' (HG6.out.trans hw')
                go_simp
                exact hK _ _ rfl rfl (World.grownBy.refl _ none)
              -- op 5 (slot 104): move
              refine MonoR.step (Pv.eq (.int .u64 ((j : Int) + 1))) [] (by kernel_rfl) (fun w' hw' => ?_) ?_
              · refine ask_do rfl fun K hK => ?_
                go_simp
                exact hK _ _ rfl rfl (World.grownBy.refl _ none)
              -- op 6 (slot 105): fieldAddr
              refine MonoR.step (Pv.eq (.pointer (some ⟨w.heap.size, 1, none⟩))) [] (by kernel_rfl) (fun w' hw' => ?_) ?_
              · refine ask_do rfl fun K hK => ?_
                go_simp
                exact hK _ _ rfl rfl (World.grownBy.refl _ none)
              -- op 7 (slot 106): load
              refine MonoR.step (Pv.eq (.int .u64 p.Q)) [(6, 105)] (by kernel_rfl) (fun w' hw' => ?_) ?_
              · rintro _ rfl
                refine ask_do rfl fun K hK => ?_
                obtain ⟨q0, q1, q2⟩ := HLD.out w' (HG6.out.trans hw')
                go_simp
                exact hK _ _ rfl rfl (World.grownBy.refl _ none)
              -- op 8 (slot 107): call
              refine MonoR.step (slU b1) [(4, 103), (5, 104), (7, 106)] (by kernel_rfl) (fun w' hw' => ?_) ?_
              · rintro _ rfl
                rintro _ rfl
                rintro _ rfl
                refine ask_do rfl fun K hK => ?_
                go_simp
                refine (HCo1.out w' (HG6.out.trans hw')).mono ?_
                rintro e w3 ⟨v3, rfl, hs3, hg3⟩
                exact hK _ _ rfl (hs3.more fun _ _ _ => trivial) hg3
              -- op 9 (slot 108): move
              refine MonoR.step (Pv.eq (.slice (some ⟨gR, oR, none⟩) L cR)) [] (by kernel_rfl) (fun w' hw' => ?_) ?_
              · refine ask_do rfl fun K hK => ?_
                go_simp
                exact hK _ _ rfl rfl (World.grownBy.refl _ none)
              -- op 10 (slot 109): move
              refine MonoR.step (Pv.eq (.int .i64 (i : Int))) [] (by kernel_rfl) (fun w' hw' => ?_) ?_
              · refine ask_do rfl fun K hK => ?_
                go_simp
                exact hK _ _ rfl rfl (World.grownBy.refl _ none)
              -- op 11 (slot 110): indexAddr
              refine MonoR.step (Pv.eq (.pointer (some ⟨gR, oR + i, none⟩))) [(9, 108), (10, 109)] (by kernel_rfl) (fun w' hw' => ?_) ?_
              · rintro _ rfl
                rintro _ rfl
                refine ask_do rfl fun K hK => ?_
                go_simp
                exact hK _ _ rfl rfl (World.grownBy.refl _ none)
              -- op 12 (slot 111): load
              refine MonoR.step (Pv.eq (.slice Ab t cb)) [(11, 110)] (by kernel_rfl) (fun w' hw' => ?_) ?_
              · rintro _ rfl
                refine ask_do rfl fun K hK => ?_
                obtain ⟨q0, q1, q2⟩ := HLD.out w' (HG6.out.trans hw')
                go_simp
                exact hK _ _ rfl rfl (World.grownBy.refl _ none)
              -- op 13 (slot 112): move
              refine MonoR.step (Pv.eq (.int .u64 ((j : Int) + 1))) [] (by kernel_rfl) (fun w' hw' => ?_) ?_
              · refine ask_do rfl fun K hK => ?_
                go_simp
                exact hK _ _ rfl rfl (World.grownBy.refl _ none)
              -- op 14 (slot 113): fieldAddr
              refine MonoR.step (Pv.eq (.pointer (some ⟨w.heap.size, 1, none⟩))) [] (by kernel_rfl) (fun w' hw' => ?_) ?_
              · refine ask_do rfl fun K hK => ?_
                go_simp
                exact hK _ _ rfl rfl (World.grownBy.refl _ none)
              -- op 15 (slot 114): load
              refine MonoR.step (Pv.eq (.int .u64 p.Q)) [(14, 113)] (by kernel_rfl) (fun w' hw' => ?_) ?_
              · rintro _ rfl
                refine ask_do rfl fun K hK => ?_
                obtain ⟨q0, q1, q2⟩ := HLD.out w' (HG6.out.trans hw')
                go_simp
                exact hK _ _ rfl rfl (World.grownBy.refl _ none)
              -- op 16 (slot 115): call
              refine MonoR.step (slU b2) [(12, 111), (13, 112), (15, 114)] (by kernel_rfl) (fun w' hw' => ?_) ?_
              · rintro _ rfl
                rintro _ rfl
                rintro _ rfl
                refine ask_do rfl fun K hK => ?_
                go_simp
                refine (HCo2.out w' (HG6.out.trans hw')).mono ?_
                rintro e w3 ⟨v3, rfl, hs3, hg3⟩
                exact hK _ _ rfl (hs3.more fun _ _ _ => trivial) hg3
              -- op 17 (slot 116): call
              refine MonoR.step (slP N2 yc) [(8, 107), (16, 115)] (by kernel_rfl) (fun w' hw' => ?_) ?_
              · intro x107 h107
                have h107 : Sl encU TT w' x107 b1 := h107
                obtain ⟨A107, c107, e107, k107, l107⟩ := h107.form
                subst e107
                intro x115 h115
                have h115 : Sl encU TT w' x115 b2 := h115
                obtain ⟨A115, c115, e115, k115, l115⟩ := h115.form
                subst e115
                refine ask_do rfl fun K hK => ?_
                go_simp
                refine (HPc.out _ _ w' h107 h115).mono ?_
                rintro e w3 ⟨v3, rfl, hs3, hg3⟩
                exact hK _ _ rfl (hs3.more fun b _ hb => Nat.le_trans (by rw [HN2.out]; exact hw'.size) hb) hg3
              -- op 18 (slot 117): buildSlice
              refine MonoR.step (blkP N2 yc) [(17, 116)] (by kernel_rfl) (fun w' hw' => ?_) ?_
              · intro x116 h116
                have h116 : Sl encP (fun b => N2 ≤ b) w' x116 yc := h116
                obtain ⟨A116, c116, e116, k116, l116⟩ := h116.form
                subst e116
                refine ask_do rfl fun K hK => ?_
                go_simp
                exact hK _ _ rfl ⟨_, _, _, _, rfl, Bk.new w' _ _, h116.kept (World.grownBy_alloc w' _ none)⟩ (World.grownBy_alloc w' _ none)
              
              intro w7 hw7
              intro y0 k0 y1 k1 y2 k2 y3 k3 y4 k4 y5 k5 y6 k6 y7 k7 y8 k8 y9 k9 y10 k10 y11 k11 y12 k12 y13 k13 y14 k14 y15 k15 y16 k16 y17 k17 y18 k18
              show wpList Tryz.prog _ _ _ _ w7
              simp only [Act.put, List.setIfInBounds_toArray, List.set_cons_zero, List.set_cons_succ]
              have e0 : y0 = .slice A17 n17 c17 := k0
              subst e0
              have k18' : ∃ A n c b, y18 = .slice (some ⟨b, 0, none⟩) 1 1 ∧ Bk w7 b 26 #[.slice A n c] ∧ Sl encP (fun b => N2 ≤ b) w7 (.slice A n c) yc := k18
              obtain ⟨Ay, ny, cy, by', ey, hky, hsy⟩ := k18'
              subst ey
              have HS7 := Lib.hid (HS6.out.kept hw7)
              have HG7 : Hid (wj.grownBy w7 none) := Lib.hid (HG6.out.trans hw7)
              have HZ7 : Hid (wj.heap.size ≤ w7.heap.size) := Lib.hid HG7.out.size
              have HKY := Lib.hid hky
              have HREP : Hid ((encS encP).rep (fun b => (wj.heap.size ≤ b ∧ some b ≠ (Value.slice A18 n18 c18).ownBlock) ∧ some b ≠ (Value.slice A17 n17 c17).ownBlock) w7 [.slice Ay ny cy] yc) := Lib.hid ⟨_, rfl, hsy.more fun b _ hb => by
                rw [HN2.out] at hb
                exact ⟨⟨Nat.le_trans HG6.out.size hb, fun e => absurd hb (Nat.not_le_of_lt (HS6.out.fst.lt b e.symm).2)⟩, fun e => absurd hb (Nat.not_le_of_lt (HS6.out.snd.lt b e.symm).2)⟩⟩
              clear hky hsy k0 k1 k2 k3 k4 k5 k6 k7 k8 k9 k10 k11 k12 k13 k14 k15 k16 k17 k18 hw7 HS6 HG6 HN2
              refine wpList_plain rfl fun K hK => ?_
              refine pushAt_core (E := encS encP) (y := yc) el_pairs HS7.out.snd HREP.out (Bk.one HKY.out) HLN17.out HZ7.out (HS7.out.new2 (fun _ h => Nat.le_trans HZ7.out h)) (.tmp 99) (.tmp 117) rfl rfl rfl ?_
              intro v8 w8 ha hgr hm
              refine hK _ _ ?_
              clear hK
              have HFIN : Hid (Side (encS encP) (encS encP) wj.heap.size 26 26 (fun b => wj.heap.size ≤ b) w8 (.slice A18 n18 c18) v8 ((List.range (i + 1)).map (rowP p.Q F R t ((j : Int) + 1))) ((List.range (i + 1)).map (colP p.Q F R t ((j : Int) + 1))) ∧ wj.grownBy w8 none) := Lib.hid ⟨by
                rw [HN17.out]
                exact HS7.out.two ha hgr hm, grown_up HG7.out hgr (fun b e => (HS7.out.snd.lt b e).1)⟩
              clear ha hgr hm HS7 HG7 HREP HKY HZ7 HN17 HRo1 HRo2 HCo1 HCo2 HPr HPc HLD
              go_wp2_with fail
              go_roundg q
              case measure => omega
              case rel => exact ⟨i + 1, by omega, by go_num, HFIN⟩
    | succ m =>
      have hin : (s : Int) < (L : Int) := by omega
      have hsl : s < l.length := by have := HLN.out; omega
      obtain ⟨gl, ol, cl, el, _, _, hcl0, hcl1, hul1, hul2⟩ := (HLX.out _ HG3.out).atP hsl
      injection el with el1 el2 el3
      subst el1 el3
      obtain ⟨kb, hkb⟩ : ∃ y, y = k0 + s * (2 * dd) := ⟨_, rfl⟩
      have hkm : kb + 2 * dd ≤ most := by
        have h1 : (s + 1) * (2 * dd) ≤ L * (2 * dd) := Nat.mul_le_mul_right _ (by omega)
        have h2 := HMO.out
        rw [Nat.add_mul, Nat.one_mul] at h1
        omega
      have HKN : Hid (k0 + (s + 1) * (2 * dd) = kb + dd + dd) := Lib.hid (by rw [hkb, Nat.add_mul, Nat.one_mul]; omega)
      have HFN : Hid (makeFs l p.Q dr t k0 (s + 1) = makeFs l p.Q dr t k0 s ++ [twoL l[s].1 p.Q dr t kb]) := Lib.hid (by
        rw [hkb, HDD.out]
        refine (hsnoc _ _).trans ?_
        show _ ++ [twoL (l[s]?.getD (0, 0)).1 p.Q dr t (k0 + s * (2 * (t * t - 1)))] = _
        rw [List.getElem?_eq_getElem hsl]
        rfl)
      have HRN : Hid (makeBs l p.Q dr t k0 (s + 1) = makeBs l p.Q dr t k0 s ++ [twoL l[s].2 p.Q dr t (kb + dd)]) := Lib.hid (by
        rw [hkb, HDD.out]
        refine (hsnoc _ _).trans ?_
        show _ ++ [twoL (l[s]?.getD (0, 0)).2 p.Q dr t (k0 + s * (2 * (t * t - 1)) + (t * t - 1))] = _
        rw [List.getElem?_eq_getElem hsl]
        rfl)
      rw [← hkb] at HI3
      obtain ⟨x, hx⟩ : ∃ y, y = l[s] := ⟨_, rfl⟩
      rw [← hx] at HFN HRN hcl0 hcl1 hul1 hul2
      obtain ⟨x1, x2⟩ := x
      simp only at HFN HRN hcl0 hcl1 hul1 hul2
      obtain ⟨wa, hwa⟩ : ∃ y, y = wr.alloc (Obj.cells #[.int .u64 x1, .int .u64 x2] 58) := ⟨_, rfl⟩
      obtain ⟨Bb, hBb⟩ : ∃ y, y = wr.heap.size := ⟨_, rfl⟩
      have HGA : Hid (wr.grownBy wa none) := Lib.hid (by rw [hwa]; exact World.grownBy_alloc _ _ none)
      have HBA : Hid (Bk wa Bb 58 #[.int .u64 x1, .int .u64 x2]) := Lib.hid (by rw [hwa, hBb]; exact Bk.new _ _ _)
      have HIA : Hid (TI kb wa) := Lib.hid (HT.out.keep HI3.out HGA.out (by simp))
      have HSA := Lib.hid (HS0.out.kept HGA.out)
      have HGa : Hid (w2.grownBy wa (some g)) := Lib.hid (HG3.out.trans (HGA.out.but _))
      have HB1 := Lib.hid (HTW.out x1 kb wa hul1 (by omega) HIA.out)
      have HU2 := Lib.hid hul2
      obtain ⟨y, hy⟩ : ∃ y, y = twoL x1 p.Q dr t kb := ⟨_, rfl⟩
      rw [← hy] at HFN HB1
      obtain ⟨z, hz⟩ : ∃ y, y = twoL x2 p.Q dr t (kb + dd) := ⟨_, rfl⟩
      rw [← hz] at HRN
      have HZ := Lib.hid hz
      have HLF : Hid (((makeFs l p.Q dr t k0 s).length + 1) * 24 ≤ 140737488355328) := Lib.hid (by simp [makeFs]; omega)
      have HLR : Hid (((makeBs l p.Q dr t k0 s).length + 1) * 24 ≤ 140737488355328) := Lib.hid (by simp [makeBs]; omega)
      have HBb : Hid (w2.heap.size ≤ Bb ∧ (∀ r, u10.ownBlock = some r → r < Bb) ∧ (∀ r, u11.ownBlock = some r → r < Bb)) := Lib.hid (by rw [hBb]; exact ⟨HG3.out.size, fun r e => (HS0.out.fst.lt r e).2, fun r e => (HS0.out.snd.lt r e).2⟩)
      have HBs : Hid (Bb < wa.heap.size) := Lib.hid HBA.out.lt
      have hpa : ∀ o, (wr.alloc (Obj.cells #[.int .u64 x1, .int .u64 x2] 58)).cell? ⟨w.heap.size, o, none⟩ = (#[.int .u64 p.P, .int .u64 p.Q, .int .u64 p.G, .int .u64 p.H, .int .i64 p.Nodes, .int .i64 p.N, .int .i64 p.T, .int .i64 p.K, .int .i64 p.D, .int .i64 p.R, .int .i64 p.M, .int .i64 p.X] : Array Value)[o]? := by rw [← hwa]; exact (HPX.out _ HGa.out).prule
      have d0 : (wr.alloc (Obj.cells #[.int .u64 x1, .int .u64 x2] 58)).cell? ⟨wr.heap.size, 0, none⟩ = some (.int .u64 x1) := by rw [← hwa, ← hBb]; simpa using HBA.out.cell 0
      clear hkb hy hz el2 hx hul1 hul2 hsl
      go_wp2_with fail
      rw [← hwa, ← hBb]
      clear hwa hBb hp3 hcl0 hcl1
      refine HB1.out.mono ?_
      rintro e w3 ⟨v50, rfl, hs3, hi3, hg3⟩
      obtain ⟨A50, n50, c50, rfl⟩ := hs3.shape
      have HG4 : Hid (w2.grownBy w3 (some g)) := Lib.hid (HGa.out.trans hg3)
      have HI4 := Lib.hid hi3
      have HS4 := Lib.hid (HSA.out.keep hg3 (fun b hb e => by injection e with e; have := HW2.out; omega))
      have HBA4 := Lib.hid (HBA.out.grown hg3 (fun e => by injection e with e; have := HW2.out; have := HBb.out.1; omega))
      have HREP : Hid ((encS (encS encU)).rep (fun b => (w2.heap.size ≤ b ∧ some b ≠ u11.ownBlock) ∧ some b ≠ u10.ownBlock) w3 [.slice A50 n50 c50] y) := Lib.hid ⟨_, rfl, hs3.more fun b _ hb => ⟨⟨by have := HBb.out.1; have := HBs.out; omega, fun e => by have := HBb.out.2.2 b e.symm; have := HBs.out; omega⟩, fun e => by have := HBb.out.2.1 b e.symm; have := HBs.out; omega⟩⟩
      have HZ4 : Hid (w2.heap.size ≤ w3.heap.size) := Lib.hid HG4.out.size
      clear hs3 hi3 hg3 hpa d0
      go_wp2_with (at_builtin; refine wpList_push rfl (.tmp 44) (.tmp 51) rfl (E := encS (encS encU)) (y := y) el_rows HS4.out.fst rfl rfl HREP.out HLF.out HZ4.out (HS4.out.new1 (fun _ h => Nat.le_trans HZ4.out h)) ?_)
      intro v10 w4 ha hg hm
      have HS5 := Lib.hid (HS4.out.one ha hg hm)
      have HG5 : Hid (w2.grownBy w4 (some g)) := Lib.hid (HG4.out.andThen hg (fun j e => .inl (HS4.out.fst.lt j e).1))
      have HI5 : Hid (TI (kb + dd) w4) := Lib.hid (HT.out.keep HI4.out hg (fun b e hb => by have := (HS4.out.fst.lt b e).1; have := HOB.out b hb; have := HW2.out; omega))
      have HBA5 := Lib.hid (HBA4.out.grown hg (fun e => by have := HBb.out.2.1 _ e.symm; omega))
      clear ha hg hm
      have hp5 := (HPX.out _ HG5.out).prule
      have d1 := HBA5.out.cell 1
      simp at d1
      have HB7 := Lib.hid (HTW.out x2 (kb + dd) w4 HU2.out (by omega) HI5.out)
      rw [← HZ.out] at HB7
      go_wp2_with fail
      refine HB7.out.mono ?_
      rintro e w6 ⟨v59, rfl, hs6, hi6, hg6⟩
      obtain ⟨A59, n59, c59, rfl⟩ := hs6.shape
      have HG8 : Hid (w2.grownBy w6 (some g)) := Lib.hid (HG5.out.trans hg6)
      have HI8 := Lib.hid hi6
      have HS8 := Lib.hid (HS5.out.keep hg6 (fun b hb e => by injection e with e; have := HW2.out; omega))
      have HZ8 : Hid (w2.heap.size ≤ w6.heap.size) := Lib.hid HG8.out.size
      have HREP2 : Hid ((encS (encS encU)).rep (fun b => (w2.heap.size ≤ b ∧ some b ≠ v10.ownBlock) ∧ some b ≠ u11.ownBlock) w6 [.slice A59 n59 c59] z) := Lib.hid ⟨_, rfl, hs6.more fun b _ hb => ⟨⟨Nat.le_trans HG5.out.size hb, fun e => by have := (HS5.out.fst.lt b e.symm).2; omega⟩, fun e => by have := (HS5.out.snd.lt b e.symm).2; omega⟩⟩
      clear hs6 hi6 hg6 hp5 d1
      go_wp2_with (at_builtin; refine wpList_push rfl (.tmp 53) (.tmp 60) rfl (E := encS (encS encU)) (y := z) el_rows HS8.out.snd rfl rfl HREP2.out HLR.out HZ8.out (HS8.out.new2 (fun _ h => Nat.le_trans HZ8.out h)) ?_)
      intro v11 w7 ha hg hm
      have HFIN : Hid (Side (encS (encS encU)) (encS (encS encU)) w2.heap.size 32 32 (fun b => w2.heap.size ≤ b) w7 v10 v11 (makeFs l p.Q dr t k0 (s + 1)) (makeBs l p.Q dr t k0 (s + 1)) ∧ TI (k0 + (s + 1) * (2 * dd)) w7 ∧ w2.grownBy w7 (some g)) := Lib.hid ⟨by rw [HFN.out, HRN.out]; exact HS8.out.two ha hg hm, by
        rw [HKN.out]
        exact HT.out.keep HI8.out hg (fun b e hb => by have := (HS8.out.snd.lt b e).1; have := HOB.out b hb; have := HW2.out; omega), HG8.out.andThen hg (fun j e => .inl (HS8.out.snd.lt j e).1)⟩
      clear ha hg hm
      go_wp2_with fail
      go_roundg m
      case measure => omega
      case rel => exact ⟨s + 1, by omega, by go_num, HFIN⟩
end Go.Proofs.YtphbcfpiklmmeaaGreatDoor

namespace Go.Proofs.YtphbcfpiklmmeaaGreatDoor

/-- The value of a polynomial at i. -/
def evZ (i : Int) : List Int → Int
  | [] => 0
  | x :: l => x + i * evZ i l
end Go.Proofs.YtphbcfpiklmmeaaGreatDoor

namespace Go.Proofs.YtphbcfpiklmmeaaGreatDoor

end Go.Proofs.YtphbcfpiklmmeaaGreatDoor

namespace Go.Proofs.YtphbcfpiklmmeaaGreatDoor
open Go Go.RowKit

/-- Three lists built side by side. -/
structure Tri {α β γ : Type} (E : Enc α) (F : Enc β) (G : Enc γ) (base : Nat) (e f g : TypeId) (Z : Nat → Prop) (w : World) (v u t : Value) (xs : List α) (ys : List β) (zs : List γ) : Prop where
  fst : Acc E base e (fun b => Z b ∧ some b ≠ u.ownBlock ∧ some b ≠ t.ownBlock) w v xs
  snd : Acc F base f (fun b => Z b ∧ some b ≠ v.ownBlock ∧ some b ≠ t.ownBlock) w u ys
  trd : Acc G base g (fun b => Z b ∧ some b ≠ v.ownBlock ∧ some b ≠ u.ownBlock) w t zs
section
variable {α β γ : Type} {E : Enc α} {F : Enc β} {G : Enc γ} {base : Nat} {e f g : TypeId} {Z : Nat → Prop} {w w' : World} {v u t v' u' t' : Value} {xs xs' : List α} {ys ys' : List β} {zs zs' : List γ}
theorem Tri.kept (h : Tri E F G base e f g Z w v u t xs ys zs) (hg : w.grownBy w' none) : Tri E F G base e f g Z w' v u t xs ys zs := ⟨h.fst.kept hg, h.snd.kept hg, h.trd.kept hg⟩
theorem Tri.rot (h : Tri E F G base e f g Z w v u t xs ys zs) : Tri F G E base f g e Z w u t v ys zs xs := ⟨h.snd.more fun _ _ x => ⟨x.1, x.2.2, x.2.1⟩, h.trd.more fun _ _ x => ⟨x.1, x.2.2, x.2.1⟩, h.fst⟩
theorem Tri.one (h : Tri E F G base e f g Z w v u t xs ys zs) (ha : Acc E base e (fun b => Z b ∧ some b ≠ u.ownBlock ∧ some b ≠ t.ownBlock) w' v' xs') (hg : w.grownBy w' v.ownBlock) (hm : Moved w v v') : Tri E F G base e f g Z w' v' u t xs' ys zs := by
  have k : ∀ b, b < w.heap.size → some b ≠ v.ownBlock → some b ≠ v'.ownBlock := fun b hb hx e => hm.ne hb (fun e' => hx e'.symm) e.symm
  refine ⟨ha, ?_, ?_⟩
  · have h1 : Acc F base f (fun b => (Z b ∧ some b ≠ v'.ownBlock ∧ some b ≠ t.ownBlock) ∧ some b ≠ v.ownBlock) w u ys := h.snd.more fun b hb hx => ⟨⟨hx.1, k b hb hx.2.1, hx.2.2⟩, hx.2.1⟩
    exact (h1.keep hg fun g hx => hx.2).more fun g _ hx => hx.1
  · have h1 : Acc G base g (fun b => (Z b ∧ some b ≠ v'.ownBlock ∧ some b ≠ u.ownBlock) ∧ some b ≠ v.ownBlock) w t zs := h.trd.more fun b hb hx => ⟨⟨hx.1, k b hb hx.2.1, hx.2.2⟩, hx.2.1⟩
    exact (h1.keep hg fun g hx => hx.2).more fun g _ hx => hx.1
theorem Tri.two (h : Tri E F G base e f g Z w v u t xs ys zs) (ha : Acc F base f (fun b => Z b ∧ some b ≠ v.ownBlock ∧ some b ≠ t.ownBlock) w' u' ys') (hg : w.grownBy w' u.ownBlock) (hm : Moved w u u') : Tri E F G base e f g Z w' v u' t xs ys' zs := ((h.rot.one (ha.more fun _ _ x => ⟨x.1, x.2.2, x.2.1⟩) hg hm).rot.rot)
theorem Tri.three (h : Tri E F G base e f g Z w v u t xs ys zs) (ha : Acc G base g (fun b => Z b ∧ some b ≠ v.ownBlock ∧ some b ≠ u.ownBlock) w' t' zs') (hg : w.grownBy w' t.ownBlock) (hm : Moved w t t') : Tri E F G base e f g Z w' v u t' xs ys zs' := ((h.rot.rot.one (ha.more fun _ _ x => x) hg hm).rot)
theorem Tri.nil (E : Enc α) (F : Enc β) (G : Enc γ) (base : Nat) (e f g : TypeId) (Z : Nat → Prop) (w : World) : Tri E F G base e f g Z w (.slice none 0 0) (.slice none 0 0) (.slice none 0 0) [] [] [] := ⟨Acc.nil _ _ _ _ _, Acc.nil _ _ _ _ _, Acc.nil _ _ _ _ _⟩
theorem Tri.new1 (h : Tri E F G base e f g Z w v u t xs ys zs) (hZ : ∀ b, w.heap.size ≤ b → Z b) : ∀ b, w.heap.size ≤ b → Z b ∧ some b ≠ u.ownBlock ∧ some b ≠ t.ownBlock := fun b hb => ⟨hZ b hb, fun e => by have := (h.snd.lt b e.symm).2; omega, fun e => by have := (h.trd.lt b e.symm).2; omega⟩
theorem Tri.new2 (h : Tri E F G base e f g Z w v u t xs ys zs) (hZ : ∀ b, w.heap.size ≤ b → Z b) : ∀ b, w.heap.size ≤ b → Z b ∧ some b ≠ v.ownBlock ∧ some b ≠ t.ownBlock := fun b hb => ⟨hZ b hb, fun e => by have := (h.fst.lt b e.symm).2; omega, fun e => by have := (h.trd.lt b e.symm).2; omega⟩
end
end Go.Proofs.YtphbcfpiklmmeaaGreatDoor

namespace Go.Proofs.YtphbcfpiklmmeaaGreatDoor
open Go.RowKit

theorem evalI_cons' (q : Int) (y : Int) (c : List Int) (x : Int) : evalI q (y :: c) x = addI (mulI (evalI q c x) x q) y q := by simp [evalI, evalGo]
theorem evalI_cg' {q : Int} (hq : mayB q = true) (x : Int) : ∀ (c : List Int), Cg q (evalI q c x) (evZ x c)
  | [] => Cg.refl _ _
  | y :: c => by
    rw [evalI_cons', addI_yes _ _ _ hq, mulI_yes _ _ _ hq]
    refine (Cg.mod _ _).trans (((Cg.mod _ _).trans ((evalI_cg' hq x c).mul_right x)).add (Cg.refl _ y) |>.trans (Cg.of_eq ?_))
    show evZ x c * x + y = y + x * evZ x c
    rw [Int.mul_comm, Int.add_comm]
/-- What member i has of a dealing. -/
def dealtI (p : Par) (F R : List (List Int)) (i : Int) : List (Int × Int) := (List.range F.length).map fun s => (evalI p.Q (F[s]?.getD []) i, evalI p.Q (R[s]?.getD []) i)
end Go.Proofs.YtphbcfpiklmmeaaGreatDoor
