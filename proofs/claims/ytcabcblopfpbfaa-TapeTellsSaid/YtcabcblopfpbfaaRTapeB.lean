/- The document's tape (consistoryref12): Next over any tape, New, walked. -/
import Derived.Test.YtcabcblopfpbfaaRTapeA
namespace Go.Proofs.Ytcabcblopfpbfaa
open Go.RowKit

set_option maxHeartbeats 400000 in
theorem rnext_ahead (b g o n c : Nat) (x : Int) (s d q : Int) (w : World) (hx : U64 x) (hq : U64 q) (hd0 : 0 ≤ d) (hd : d < 4611686018427387904)
    (hb : Bk w b 42 #[.slice (some ⟨g, o, none⟩) (n + 1) c, .int .u64 s, .int .i64 d]) (hc : w.cell? ⟨g, o, none⟩ = some (.int .u64 x)) (hgb : g ≠ b) (hn : n + 1 ≤ c) (h1c : 1 < c) (hcm : c ≤ 9223372036854775807) :
    Calls Try.prog 20 #[.pointer (some ⟨b, 0, none⟩), .int .u64 q] w fun e w' => e = .returned (.int .u64 (belowI x q)) ∧ Bk w' b 42 #[.slice (some ⟨g, o + 1, none⟩) n (c - 1), .int .u64 s, .int .i64 (d + 1)] ∧ w.grownBy w' (some b) := by
  have c1 : w.cell? ⟨b, 0, none⟩ = some (.slice (some ⟨g, o, none⟩) (n + 1) c) := hb.cell 0
  have c2 : w.cell? ⟨b, 2, none⟩ = some (.int .i64 d) := hb.cell 2
  have f1 : w.frozen? ⟨b, 0, none⟩ = false := hb.free 0
  have f2 : w.frozen? ⟨b, 2, none⟩ = false := hb.free 2
  have HB := Lib.hid hb
  have hne : ¬ (b = g) := fun h => hgb h.symm
  obtain ⟨x0, x1⟩ := hx
  obtain ⟨q0, q1⟩ := hq
  clear hb
  by_cases hqp : 0 < q
  · have hqd : decide ((0 : Int) < q) = true := by simpa using hqp
    have hv : belowI x q = x % q := by unfold belowI; rw [if_neg (by omega)]
    rw [hv]
    clear hv
    go_enter Try.func20, Try.ntmps20
    go_wp2
    go_ret
    refine ⟨rfl, ?_, ?_⟩
    · exact (((HB.out.set 2 _).set 0 _).of_eq rfl)
    · exact (grownBy_set (grownBy_set (World.grownBy.refl w _) 2 _) 0 _)
  · have hqd : decide ((0 : Int) < q) = false := by simp; omega
    have hv : belowI x q = x := by unfold belowI; rw [if_pos (by omega)]
    rw [hv]
    clear hv
    go_enter Try.func20, Try.ntmps20
    go_wp2
    go_ret
    refine ⟨rfl, ?_, ?_⟩
    · exact (((HB.out.set 2 _).set 0 _).of_eq rfl)
    · exact (grownBy_set (grownBy_set (World.grownBy.refl w _) 2 _) 0 _)

set_option maxHeartbeats 400000 in
theorem rnext_last (b g o : Nat) (x : Int) (s d q : Int) (w : World) (hx : U64 x) (hq : U64 q) (hd0 : 0 ≤ d) (hd : d < 4611686018427387904)
    (hb : Bk w b 42 #[.slice (some ⟨g, o, none⟩) 1 1, .int .u64 s, .int .i64 d]) (hc : w.cell? ⟨g, o, none⟩ = some (.int .u64 x)) (hgb : g ≠ b) :
    Calls Try.prog 20 #[.pointer (some ⟨b, 0, none⟩), .int .u64 q] w fun e w' => e = .returned (.int .u64 (belowI x q)) ∧ Bk w' b 42 #[.slice (some ⟨g, o, none⟩) 0 0, .int .u64 s, .int .i64 (d + 1)] ∧ w.grownBy w' (some b) := by
  have c1 : w.cell? ⟨b, 0, none⟩ = some (.slice (some ⟨g, o, none⟩) 1 1) := hb.cell 0
  have c2 : w.cell? ⟨b, 2, none⟩ = some (.int .i64 d) := hb.cell 2
  have f1 : w.frozen? ⟨b, 0, none⟩ = false := hb.free 0
  have f2 : w.frozen? ⟨b, 2, none⟩ = false := hb.free 2
  have HB := Lib.hid hb
  have hne : ¬ (b = g) := fun h => hgb h.symm
  obtain ⟨x0, x1⟩ := hx
  obtain ⟨q0, q1⟩ := hq
  clear hb
  by_cases hqp : 0 < q
  · have hqd : decide ((0 : Int) < q) = true := by simpa using hqp
    have hv : belowI x q = x % q := by unfold belowI; rw [if_neg (by omega)]
    rw [hv]
    clear hv
    go_enter Try.func20, Try.ntmps20
    go_wp2
    go_ret
    refine ⟨rfl, ?_, ?_⟩
    · exact (((HB.out.set 2 _).set 0 _).of_eq rfl)
    · exact (grownBy_set (grownBy_set (World.grownBy.refl w _) 2 _) 0 _)
  · have hqd : decide ((0 : Int) < q) = false := by simp; omega
    have hv : belowI x q = x := by unfold belowI; rw [if_pos (by omega)]
    rw [hv]
    clear hv
    go_enter Try.func20, Try.ntmps20
    go_wp2
    go_ret
    refine ⟨rfl, ?_, ?_⟩
    · exact (((HB.out.set 2 _).set 0 _).of_eq rfl)
    · exact (grownBy_set (grownBy_set (World.grownBy.refl w _) 2 _) 0 _)

/-- What a draw of the document's tape leaves. -/
def RDrawn (w : World) (b ga : Nat) (q : Int) (T : TS) (e : Ending) (w' : World) : Prop := e = .returned (.int .u64 (T.val q)) ∧ RTapeIs w' b ga (T.next q) ∧ w.grownBy w' (some b)
theorem rnext_any (b ga : Nat) (q : Int) (T : TS) (w : World) (h : RTapeIs w b ga T) (hT : T.ok) (hq : U64 q) :
    Calls Try.prog 20 #[.pointer (some ⟨b, 0, none⟩), .int .u64 q] w (RDrawn w b ga q T) := by
  obtain ⟨hx, hs, hd0, hd1⟩ := hT
  obtain ⟨A, c, hk, h1, h2, h3⟩ := h
  obtain ⟨l, s, d⟩ := T
  cases l with
  | nil =>
    refine (rnext_own b A c s d q w hs hq hd0 hd1 hk).mono ?_
    rintro e w' ⟨rfl, hk', hg⟩
    exact ⟨rfl, ⟨A, c, hk', h1, h2, fun h => absurd rfl h⟩, hg⟩
  | cons x l =>
    obtain ⟨hne, hlt, o, rfl, hc⟩ := h3 (by simp)
    have hc0 : w.cell? ⟨ga, o, none⟩ = some (.int .u64 x) := hc 0 _ rfl
    simp only [List.length_cons] at hk h1
    by_cases hlast : 1 < c
    · refine (rnext_ahead b ga o l.length c x s d q w (hx x (by simp)) hq hd0 hd1 hk hc0 hne (by simpa using h1) hlast h2).mono ?_
      rintro e w' ⟨rfl, hk', hg⟩
      refine ⟨rfl, ⟨_, c - 1, hk', by simp only [TS.next]; omega, by omega, fun _ => ⟨hne, Nat.lt_of_lt_of_le hlt hg.size, o + 1, rfl, fun j u hu => ?_⟩⟩, hg⟩
      rw [World.cell?_of_block (w := w) (hg.block ga hlt (by simpa using hne)), show o + 1 + j = o + (j + 1) by omega]
      exact hc (j + 1) u (by simpa [nums, TS.next] using hu)
    · have hl : l = [] := List.eq_nil_of_length_eq_zero (by omega)
      subst hl
      have hc1 : c = 1 := by simp at h1; omega
      subst hc1
      refine (rnext_last b ga o x s d q w (hx x (by simp)) hq hd0 hd1 hk hc0 hne).mono ?_
      rintro e w' ⟨rfl, hk', hg⟩
      exact ⟨rfl, ⟨_, 0, hk', Nat.le_refl _, by omega, fun h => absurd rfl h⟩, hg⟩

def RTapeMade (w : World) (T : TS) (e : Ending) (w' : World) : Prop := ∃ b ga, e = .returned (.pointer (some ⟨b, 0, none⟩)) ∧ RTapeIs w' b ga T ∧ w.heap.size ≤ b ∧ w.heap.size ≤ ga ∧ ga < w'.heap.size ∧ w.grownBy w' none
set_option maxHeartbeats 400000 in
theorem rnew_any (s : Int) (w : World) :
    Calls Try.prog 19 #[.int .u64 s] w fun e w' => e = .returned (.pointer (some ⟨w.heap.size, 0, none⟩)) ∧ w' = w.alloc (.cells #[.slice none 0 0, .int .u64 s, .int .i64 0] 42) := by
  go_enter Try.func19, Try.ntmps19
  go_wp2_with fail
  go_ret
  exact ⟨rfl, rfl⟩
theorem rnew_made (s : Int) (w : World) : Calls Try.prog 19 #[.int .u64 s] w (RTapeMade w ⟨[], s, 0⟩) := by
  refine (rnew_any s w).mono ?_
  rintro e w' ⟨rfl, rfl⟩
  have hb : Bk (w.alloc (.cells #[.slice none 0 0, .int .u64 s, .int .i64 0] 42)) w.heap.size 42 #[.slice none 0 0, .int .u64 s, .int .i64 0] := Bk.new w _ _
  exact ⟨w.heap.size, w.heap.size, rfl, ⟨none, 0, hb, Nat.le_refl _, by omega, fun h => absurd rfl h⟩, Nat.le_refl _, Nat.le_refl _, by simp, World.grownBy_alloc w _ none⟩
end Go.Proofs.Ytcabcblopfpbfaa
