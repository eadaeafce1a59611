/- tape.Next with draws told ahead, At, New, slices.Clone, Of, walked. -/
import Derived.Test.YtcabcblopfpbfaaTapeB
import Derived.Lib.SliceRun
namespace Go.Proofs.Ytcabcblopfpbfaa
open Go.RowKit

set_option maxHeartbeats 400000 in
theorem next_ahead (b g o n c : Nat) (x : Int) (s d q : Int) (w : World) (hx : U64 x) (hq : U64 q) (hd0 : 0 ≤ d) (hd : d < 4611686018427387904)
    (hb : Bk w b 50 #[.int .u64 s, .slice (some ⟨g, o, none⟩) (n + 1) c, .int .i64 d]) (hc : w.cell? ⟨g, o, none⟩ = some (.int .u64 x)) (hgb : g ≠ b) (hn : n + 1 ≤ c) (h1c : 1 < c) (hcm : c ≤ 9223372036854775807) :
    Calls Try.prog 12 #[.pointer (some ⟨b, 0, none⟩), .int .u64 q] w fun e w' => e = .returned (.int .u64 (belowI x q)) ∧ Bk w' b 50 #[.int .u64 s, .slice (some ⟨g, o + 1, none⟩) n (c - 1), .int .i64 (d + 1)] ∧ w.grownBy w' (some b) := by
  have c1 : w.cell? ⟨b, 1, none⟩ = some (.slice (some ⟨g, o, none⟩) (n + 1) c) := hb.cell 1
  have c2 : w.cell? ⟨b, 2, none⟩ = some (.int .i64 d) := hb.cell 2
  have f1 : w.frozen? ⟨b, 1, none⟩ = false := hb.free 1
  have f2 : w.frozen? ⟨b, 2, none⟩ = false := hb.free 2
  have HB := Lib.hid hb
  have HL := Lib.hid (fun w => below_any x q w hx hq)
  have hne : ¬ (b = g) := fun h => hgb h.symm
  clear hb hx hq
  go_enter Try.func12, Try.ntmps12
  go_wp2_with fail
  refine (HL.out _).mono ?_
  rintro e w' ⟨rfl, n1, rfl⟩
  go_wp2
  go_ret
  refine ⟨rfl, ?_, ?_⟩
  · exact Bk.drewN (((HB.out.set 2 _).set 1 _).of_eq rfl) _
  · exact grownBy_drewN (grownBy_set (grownBy_set (World.grownBy.refl w _) 2 _) 1 _) _

set_option maxHeartbeats 400000 in
theorem next_last (b g o : Nat) (x : Int) (s d q : Int) (w : World) (hx : U64 x) (hq : U64 q) (hd0 : 0 ≤ d) (hd : d < 4611686018427387904)
    (hb : Bk w b 50 #[.int .u64 s, .slice (some ⟨g, o, none⟩) 1 1, .int .i64 d]) (hc : w.cell? ⟨g, o, none⟩ = some (.int .u64 x)) (hgb : g ≠ b) :
    Calls Try.prog 12 #[.pointer (some ⟨b, 0, none⟩), .int .u64 q] w fun e w' => e = .returned (.int .u64 (belowI x q)) ∧ Bk w' b 50 #[.int .u64 s, .slice (some ⟨g, o, none⟩) 0 0, .int .i64 (d + 1)] ∧ w.grownBy w' (some b) := by
  have c1 : w.cell? ⟨b, 1, none⟩ = some (.slice (some ⟨g, o, none⟩) 1 1) := hb.cell 1
  have c2 : w.cell? ⟨b, 2, none⟩ = some (.int .i64 d) := hb.cell 2
  have f1 : w.frozen? ⟨b, 1, none⟩ = false := hb.free 1
  have f2 : w.frozen? ⟨b, 2, none⟩ = false := hb.free 2
  have HB := Lib.hid hb
  have HL := Lib.hid (fun w => below_any x q w hx hq)
  have hne : ¬ (b = g) := fun h => hgb h.symm
  clear hb hx hq
  go_enter Try.func12, Try.ntmps12
  go_wp2_with fail
  refine (HL.out _).mono ?_
  rintro e w' ⟨rfl, n1, rfl⟩
  go_wp2
  go_ret
  refine ⟨rfl, ?_, ?_⟩
  · exact Bk.drewN (((HB.out.set 2 _).set 1 _).of_eq rfl) _
  · exact grownBy_drewN (grownBy_set (grownBy_set (World.grownBy.refl w _) 2 _) 1 _) _

set_option maxHeartbeats 400000 in
theorem at_any (b : Nat) (s d : Int) (v : Value) (w : World) (hb : Bk w b 50 #[.int .u64 s, v, .int .i64 d]) :
    Calls Try.prog 13 #[.pointer (some ⟨b, 0, none⟩)] w fun e w' => e = .returned (.int .i64 d) ∧ w' = w := by
  have c2 : w.cell? ⟨b, 2, none⟩ = some (.int .i64 d) := hb.cell 2
  clear hb
  go_enter Try.func13, Try.ntmps13
  go_wp2_with fail
  go_ret
  exact ⟨rfl, rfl⟩

set_option maxHeartbeats 400000 in
theorem new_any (s : Int) (w : World) :
    Calls Try.prog 14 #[.int .u64 s] w fun e w' => e = .returned (.pointer (some ⟨w.heap.size, 0, none⟩)) ∧ w' = w.alloc (.cells #[.int .u64 s, .slice none 0 0, .int .i64 0] 50) := by
  go_enter Try.func14, Try.ntmps14
  go_wp2_with fail
  go_ret
  exact ⟨rfl, rfl⟩

theorem eq_nil (w : World) (A : Option Addr) (n c : Nat) : (binOp .eql 22 (.slice A n c) (.slice none 0 0)).run Try.prog w = .ok (.bool A.isNone) w :=
  Lib.run_eql_slice_nil w _ 23 A n c 0 0 Try.underlying22
theorem u64_info : (Try.prog.info? 23).map (fun i => (i.zero, i.size, i.bytes)) = some (some (.int .u64 0), 1, 8) := by kernel_rfl
theorem nums_one (l : List Int) : ∀ u ∈ nums l, u.oneCell' = true := by
  intro u hu
  obtain ⟨x, _, rfl⟩ := List.mem_map.1 hu
  rfl
theorem Rd.addr {w : World} {x : Addr} {xs : List Value} (h : Rd w (some x) xs) : ∀ j u, xs[j]? = some u → w.cell? (x.add j) = some u := by
  intro j u hu
  obtain ⟨g, o, e, hg, hc⟩ := h (by intro h0; rw [h0] at hu; simp at hu)
  simp only [Option.some.injEq] at e
  subst e
  have hj := hc j u hu
  unfold Addr.add
  split
  · rename_i h0
    have : j = 0 := by simpa using h0
    subst this
    exact hj
  · exact hj

/-- What a copy of numbers leaves: a slice of its own that reads as they do. -/
def Cloned (w : World) (l : List Int) (e : Ending) (w' : World) : Prop := ∃ A c, e = .returned (.slice A l.length c) ∧ Rd w' A (nums l) ∧ l.length ≤ c ∧ c ≤ 9223372036854775807 ∧ (∀ g o, A = some ⟨g, o, none⟩ → w.heap.size ≤ g ∧ g < w'.heap.size) ∧ w.grownBy w' none
theorem grown_up {w w0 w1 : World} {row : Option Nat} (h : w.grownBy w0 none) (k : w0.grownBy w1 row) (hr : ∀ g, row = some g → w.heap.size ≤ g) : w.grownBy w1 none :=
  ⟨k.os.trans h.os, k.tape.trans h.tape, k.output.trans h.output, Nat.le_trans h.size k.size, fun i hi _ => (k.block i (Nat.lt_of_lt_of_le hi h.size) (fun e => by have := hr i e.symm; omega)).trans (h.block i hi (by simp))⟩
theorem cloned_of {w w0 w1 : World} {l : List Int} {v : Value} {n : Nat} {row : Option Nat} (hn : n = l.length) (hown : w1.ownsRow w.heap.size 23 1 v n (nums l)) (hg0 : w.grownBy w0 none) (hg : w0.grownBy w1 row) (hr : ∀ g, row = some g → w.heap.size ≤ g) : Cloned w l (.returned v) w1 := by
  subst hn
  have hG := grown_up hg0 hg hr
  rcases hown.2 with ⟨hv, h0⟩ | ⟨g, cap, cur, hv, hb, hh, hnc, hcm, _, _⟩
  · subst hv
    refine ⟨none, 0, by rw [h0], ?_, by omega, by omega, by simp, hG⟩
    have : l = [] := List.eq_nil_of_length_eq_zero h0
    subst this
    exact Rd.nil _ _
  · subst hv
    exact ⟨_, cap, rfl, Rd.own hown, hnc, hcm, fun g' o e => by injection e with e; injection e with e1 e2 e3; subst e1; exact ⟨hb, Bk.lt hh⟩, hG⟩

set_option maxHeartbeats 400000 in
theorem clone_some (x : Addr) (c : Nat) (l : List Int) (w : World) (hr : Rd w (some x) (nums l)) (hn : l.length * 8 ≤ 140737488351232) :
    Calls Try.prog 23 #[.slice (some x) l.length c] w (Cloned w l) := by
  obtain ⟨i0, hi, hz0, hz1, hz2⟩ := info_parts u64_info
  have heq := fun w => eq_nil w (some x) l.length c
  have hown := World.ownsRow_made (base := w.heap.size) (e := 23) (size := 1) w #[] 0 (Nat.le_refl _) (Nat.zero_le _) rfl
  have hr1 : Rd (w.alloc (.cells #[] 23)) (some x) (nums l) := hr.grown (World.grownBy_alloc w _ none) (by simp)
  have hc := hr1.addr
  go_enter Try.func23, Try.ntmps23
  go_wp2_with (at_builtin; refine wpList_append_own _ rfl (.tmp 5) (.tmp 6) 22 rfl w.heap.size 23 i0 (.int .u64 0) 1 8 Try.underlying22 hi hz0 hz1 hz2 rfl (by decide) _ _ _ rfl hown x l.length c (nums l) rfl (by simp [nums]) hc (nums_one l) (by unfold maxLen; omega) (by omega) (by simp) ?_)
  intro v' w1 hown1 hgrow _
  have HO := Lib.hid hown1
  have HG := Lib.hid hgrow
  clear hown1 hgrow hc hr1 hown
  go_wp2
  go_ret
  exact cloned_of (by simp) HO.out (World.grownBy_alloc w _ none) HG.out (by simp [Value.ownBlock])

theorem clone_none (c : Nat) (w : World) :
    Calls Try.prog 23 #[.slice none 0 c] w fun e w' => e = .returned (.slice none 0 0) ∧ w' = w := by
  have heq := fun w => eq_nil w none 0 c
  go_enter Try.func23, Try.ntmps23
  go_wp2
  go_ret
  exact ⟨rfl, rfl⟩

/-- The slice value v reads as the numbers l. -/
def SlIs (w : World) (v : Value) (l : List Int) : Prop := ∃ A c, v = .slice A l.length c ∧ Rd w A (nums l) ∧ l.length ≤ c ∧ c ≤ 9223372036854775807
theorem SlIs.kept {w w' : World} {v : Value} {l : List Int} (h : SlIs w v l) (hg : w.grownBy w' none) : SlIs w' v l := by
  obtain ⟨A, c, e, hr, h1, h2⟩ := h
  exact ⟨A, c, e, hr.grown hg (by simp), h1, h2⟩
theorem clone_any (v : Value) (l : List Int) (w : World) (h : SlIs w v l) (hn : l.length * 8 ≤ 140737488351232) :
    Calls Try.prog 23 #[v] w (Cloned w l) := by
  obtain ⟨A, c, rfl, hr, _, _⟩ := h
  cases A with
  | none =>
    have hl : l = [] := by
      cases l with
      | nil => rfl
      | cons x l => obtain ⟨g, o, e, _⟩ := hr (by simp [nums]); cases e
    subst hl
    refine (clone_none c w).mono ?_
    rintro e w' ⟨rfl, rfl⟩
    exact ⟨none, 0, rfl, Rd.nil _ _, Nat.le_refl _, by omega, by simp, World.grownBy.refl _ _⟩
  | some x => exact clone_some x c l w hr hn
end Go.Proofs.Ytcabcblopfpbfaa
