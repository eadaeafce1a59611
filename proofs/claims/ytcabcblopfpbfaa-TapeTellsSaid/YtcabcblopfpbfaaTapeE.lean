/- tape.Draws and the reference's Nums, walked. -/
import Derived.Test.YtcabcblopfpbfaaTapeD
namespace Go.Proofs.Ytcabcblopfpbfaa
open Go.RowKit

def TS.run (q : Int) : Nat → TS → TS
  | 0, T => T
  | n + 1, T => TS.run q n (T.next q)
def TS.vals (q : Int) : Nat → TS → List Int
  | 0, _ => []
  | n + 1, T => T.val q :: TS.vals q n (T.next q)
theorem TS.vals_length (q : Int) : ∀ (n : Nat) (T : TS), (T.vals q n).length = n
  | 0, _ => rfl
  | n + 1, T => by simp [TS.vals, TS.vals_length q n]
theorem TS.run_succ (q : Int) : ∀ (n : Nat) (T : TS), T.run q (n + 1) = (T.run q n).next q
  | 0, _ => rfl
  | n + 1, T => TS.run_succ q n (T.next q)
theorem TS.vals_succ (q : Int) : ∀ (n : Nat) (T : TS), T.vals q (n + 1) = T.vals q n ++ [(T.run q n).val q]
  | 0, _ => rfl
  | n + 1, T => by
    show T.val q :: (T.next q).vals q (n + 1) = _
    rw [TS.vals_succ q n (T.next q)]
    rfl
theorem TS.next_d (q : Int) (T : TS) : (T.next q).d = T.d + 1 := by
  obtain ⟨l, s, d⟩ := T
  cases l <;> rfl
theorem TS.ok_next {q : Int} {T : TS} (h : T.ok) (hd : T.d + 1 < 4611686018427387904) : (T.next q).ok := by
  obtain ⟨hx, hs, hd0, hd1⟩ := h
  obtain ⟨l, s, d⟩ := T
  cases l with
  | nil => exact ⟨by simp [TS.next], drawS_U64 q s hs, by simp [TS.next] at *; omega, by simpa [TS.next] using hd⟩
  | cons x l => exact ⟨fun y hy => hx y (by simp [TS.next] at hy; simp [hy]), hs, by simp [TS.next] at *; omega, by simpa [TS.next] using hd⟩
theorem TS.ok_run {q : Int} : ∀ {n : Nat} {T : TS}, T.ok → T.d + n < 4611686018427387904 → (T.run q n).ok ∧ (T.run q n).d = T.d + n
  | 0, T, h, _ => ⟨h, by simp [TS.run]⟩
  | n + 1, T, h, hd => by
    have h1 := TS.ok_next (q := q) h (by omega)
    have h2 := TS.ok_run (q := q) (n := n) h1 (by rw [TS.next_d]; omega)
    refine ⟨h2.1, ?_⟩
    show ((T.next q).run q n).d = _
    rw [h2.2, TS.next_d]
    omega
theorem TS.val_U64 {q : Int} {T : TS} (h : T.ok) (hq : U64 q) : U64 (T.val q) := by
  obtain ⟨hx, hs, hd0, hd1⟩ := h
  obtain ⟨l, s, d⟩ := T
  cases l with
  | nil => exact drawX_U64 q s hq
  | cons x l => exact belowI_U64 _ _ (hx x (by simp)) hq

/-- A row of n numbers of which the first are filled in. -/
def fillA (l : List Int) (n : Nat) : Array Value := (nums l ++ List.replicate (n - l.length) (Value.int .u64 0)).toArray
theorem fillA_size (l : List Int) (n : Nat) (h : l.length ≤ n) : (fillA l n).size = n := by simp [fillA, nums]; omega
theorem fillA_set (l : List Int) (n : Nat) (x : Int) (h : l.length < n) : (fillA l n).setIfInBounds l.length (.int .u64 x) = fillA (l ++ [x]) n := by
  obtain ⟨k, hk⟩ : ∃ k, n - l.length = k + 1 := ⟨n - l.length - 1, by omega⟩
  have hk' : n - (l ++ [x]).length = k := by simp; omega
  unfold fillA
  rw [hk, hk', List.replicate_succ]
  simp only [List.setIfInBounds_toArray]
  congr 1
  rw [show l.length = (nums l).length by simp [nums]]
  rw [List.set_append_right _ _ (Nat.le_refl _)]
  simp [nums]
theorem fillA_full (l : List Int) : fillA l l.length = (nums l).toArray := by simp [fillA]
theorem fillA_at (l : List Int) (n k : Nat) (h : k < n) (hl : l.length ≤ n) : ∃ v, (fillA l n)[k]? = some v := ⟨_, Array.getElem?_eq_getElem (by rw [fillA_size l n hl]; exact h)⟩
theorem fillA_zero (n : Nat) : madeCells #[Value.int .u64 0] n = fillA [] n := by
  apply Array.ext'
  rw [toList_madeCells_one]
  simp [fillA, nums]

def DrawnL (w : World) (b ga : Nat) (q : Int) (n : Nat) (T : TS) (e : Ending) (w' : World) : Prop :=
  ∃ g, e = .returned (.slice (some ⟨g, 0, none⟩) n n) ∧ Bk w' g 23 (nums (T.vals q n)).toArray ∧ w.heap.size ≤ g ∧ TapeIs w' b ga (T.run q n) ∧ w.grownBy w' (some b)

theorem make_u64 (w : World) (n : Nat) (h : n ≤ 1048576) : (Instr.makeSlice 22 (.int .i64 n) (.int .i64 n)).run Try.prog w = .ok (.slice (some ⟨w.heap.size, 0, none⟩) n n) (w.alloc (.cells (fillA [] n) 23)) := by
  obtain ⟨i0, hi, hz0, hz1, hz2⟩ := info_parts u64_info
  have := run_make (P := Try.prog) w 22 23 i0 (.int .u64 0) Try.underlying22 hi hz0 .i64 .i64 n n (by omega) (Int.le_refl _) (by rw [hz2]; omega) (by omega)
  rw [Int.toNat_natCast, hz1, Nat.mul_one] at this
  rw [this, ← fillA_zero]
  rfl

set_option maxHeartbeats 400000 in
theorem draws_any (b ga : Nat) (q : Int) (n : Nat) (T : TS) (w : World) (h : TapeIs w b ga T) (hT : T.ok) (hq : U64 q) (hn : n ≤ 1024) (hd : T.d + n < 4611686018427387904) (hga : ga < w.heap.size) :
    Calls Try.prog 15 #[.pointer (some ⟨b, 0, none⟩), .int .i64 n, .int .u64 q] w (DrawnL w b ga q n T) := by
  have hmk := fun w => make_u64 w n (by omega)
  have hlt := h.lt
  have H := Lib.hid h
  have HT := Lib.hid hT
  have HQ := Lib.hid hq
  have hn0 : decide ((n : Int) < 0) = false := by simp
  have hn1 : decide ((1024 : Int) < (n : Int)) = false := by simp; omega
  clear h hT hq
  go_enter Try.func15, Try.ntmps15
  go_wp2_with fail
  go_loopg [23] n (fun k s23 wx => ∃ j : Nat, j + k = n ∧ s23 = .int .i64 j ∧ Hid (Bk wx w.heap.size 23 (fillA (T.vals q j) n) ∧ TapeIs wx b ga (T.run q j) ∧ w.grownBy wx (some b)))
  case atStart => exact ⟨0, by omega, rfl, Lib.hid ⟨Bk.new w _ _, H.out.kept (World.grownBy_alloc w _ none), World.grownBy_alloc w _ _⟩⟩
  case round =>
    obtain ⟨j, hj, rfl, HX⟩ := hrel
    cases gk with
    | zero =>
      obtain rfl : j = n := by omega
      have HE : Hid (DrawnL w b ga q j T (.returned (.slice (some ⟨w.heap.size, 0, none⟩) j j)) wr) := Lib.hid ⟨_, rfl, by
        have := HX.out.1
        have e := fillA_full (T.vals q j)
        rw [TS.vals_length] at e
        rwa [e] at this, Nat.le_refl _, HX.out.2.1, HX.out.2.2⟩
      clear HX
      go_wp2
      go_ret
      exact HE.out
    | succ k =>
      have hjn : (j : Int) < (n : Int) := by omega
      have hok := TS.ok_run (q := q) (n := j) HT.out (by omega)
      have HN := Lib.hid (next_any b ga q (T.run q j) wr HX.out.2.1 hok.1 HQ.out)
      go_wp2_with fail
      refine HN.out.mono ?_
      rintro e w1 ⟨rfl, ht1, hg1⟩
      have hb1 : Bk w1 w.heap.size 23 (fillA (T.vals q j) n) := HX.out.1.grown hg1 (by simp; omega)
      obtain ⟨old, hold⟩ := fillA_at (T.vals q j) n j (by omega) (by rw [TS.vals_length]; omega)
      have hc1 : w1.cell? ⟨w.heap.size, j, none⟩ = some old := (hb1.cell j).trans hold
      have hf1 : w1.frozen? ⟨w.heap.size, j, none⟩ = false := hb1.free j
      have HR : Hid (Bk (w1.setCell ⟨w.heap.size, j, none⟩ (.int .u64 ((T.run q j).val q))) w.heap.size 23 (fillA (T.vals q (j + 1)) n) ∧ TapeIs (w1.setCell ⟨w.heap.size, j, none⟩ (.int .u64 ((T.run q j).val q))) b ga (T.run q (j + 1)) ∧ w.grownBy (w1.setCell ⟨w.heap.size, j, none⟩ (.int .u64 ((T.run q j).val q))) (some b)) := Lib.hid (by
        have e := fillA_set (T.vals q j) n ((T.run q j).val q) (by rw [TS.vals_length]; omega)
        rw [TS.vals_length] at e
        have hs := hb1.set j (.int .u64 ((T.run q j).val q))
        rw [e, ← TS.vals_succ] at hs
        refine ⟨hs, ?_, ?_⟩
        · rw [TS.run_succ]
          exact ht1.grown (grownBy_set (World.grownBy.refl w1 _) j _) (by simp; omega) (by simp; omega)
        · have h2 : w.grownBy w1 (some b) := HX.out.2.2.trans hg1
          exact ⟨h2.os, h2.tape, h2.output, by simpa [World.setCell] using h2.size, fun i hi hne => (Below.heap_setCell w1 _ _ i (by simp; omega)).trans (h2.block i hi hne)⟩)
      clear ht1 hg1 hb1 hold
      go_wp2
      go_roundg k
      case measure => omega
      case rel => exact ⟨j + 1, by omega, by go_num, HR⟩
end Go.Proofs.Ytcabcblopfpbfaa
