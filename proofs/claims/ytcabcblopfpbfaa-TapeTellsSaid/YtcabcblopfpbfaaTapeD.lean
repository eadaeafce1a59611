/- tape.Of, Next over any tape, Draws, walked. -/
import Derived.Test.YtcabcblopfpbfaaTapeC
namespace Go.Proofs.Ytcabcblopfpbfaa
open Go.RowKit

theorem TapeIs.grown {w w' : World} {b ga : Nat} {T : TS} {row : Option Nat} (h : TapeIs w b ga T) (hg : w.grownBy w' row) (hb : some b ≠ row) (ha : some ga ≠ row) : TapeIs w' b ga T := by
  obtain ⟨A, c, hk, h1, h2, h3⟩ := h
  refine ⟨A, c, hk.grown hg hb, h1, h2, fun hn => ?_⟩
  obtain ⟨h4, h5, o, h6, h7⟩ := h3 hn
  exact ⟨h4, Nat.lt_of_lt_of_le h5 hg.size, o, h6, fun j u hu => (World.cell?_of_block (w := w) (hg.block ga h5 ha)).trans (h7 j u hu)⟩
/-- Behind a call that leaves all old memory alone. -/
theorem TapeIs.kept {w w' : World} {b ga : Nat} {T : TS} (h : TapeIs w b ga T) (hg : w.grownBy w' none) : TapeIs w' b ga T :=
  h.grown hg (by simp) (by simp)
theorem TapeIs.lt {w : World} {b ga : Nat} {T : TS} (h : TapeIs w b ga T) : b < w.heap.size := by
  obtain ⟨A, c, hk, _⟩ := h
  exact hk.lt

def TapeMade (w : World) (T : TS) (e : Ending) (w' : World) : Prop := ∃ b ga, e = .returned (.pointer (some ⟨b, 0, none⟩)) ∧ TapeIs w' b ga T ∧ w.heap.size ≤ b ∧ w.heap.size ≤ ga ∧ ga < w'.heap.size ∧ w.grownBy w' none

theorem new_made (s : Int) (w : World) : Calls Try.prog 14 #[.int .u64 s] w (TapeMade w ⟨[], s, 0⟩) := by
  refine (new_any s w).mono ?_
  rintro e w' ⟨rfl, rfl⟩
  have hb : Bk (w.alloc (.cells #[.int .u64 s, .slice none 0 0, .int .i64 0] 50)) w.heap.size 50 #[.int .u64 s, .slice none 0 0, .int .i64 0] := Bk.new w _ _
  exact ⟨w.heap.size, w.heap.size, rfl, ⟨none, 0, hb, Nat.le_refl _, by omega, fun h => absurd rfl h⟩, Nat.le_refl _, Nat.le_refl _, by simp, World.grownBy_alloc w _ none⟩

set_option maxHeartbeats 400000 in
theorem of_made (v : Value) (l : List Int) (s : Int) (w : World) (h : SlIs w v l) (hn : l.length * 8 ≤ 140737488351232) :
    Calls Try.prog 11 #[v, .int .u64 s] w (TapeMade w ⟨l, s, 0⟩) := by
  have HC := Lib.hid (clone_any v l w h hn)
  clear h
  go_enter Try.func11, Try.ntmps11
  go_wp2_with fail
  refine HC.out.mono ?_
  rintro e w1 ⟨A, c, rfl, hr, h1, h2, h3, hg⟩
  have HX := Lib.hid (And.intro hr (And.intro h1 (And.intro h2 (And.intro h3 hg))))
  clear hr h1 h2 h3 hg
  go_wp2
  go_ret
  obtain ⟨hr, h1, h2, h3, hg⟩ := HX.out
  have hb : Bk (w1.alloc (.cells #[.int .u64 s, .slice A l.length c, .int .i64 0] 50)) w1.heap.size 50 #[.int .u64 s, .slice A l.length c, .int .i64 0] := Bk.new w1 _ _
  by_cases h0 : l = []
  · subst h0
    exact ⟨w1.heap.size, w1.heap.size, rfl, ⟨A, c, hb, h1, h2, fun h => absurd rfl h⟩, hg.size, hg.size, by simp, grown_up hg (World.grownBy_alloc w1 _ none) (by simp)⟩
  · have hr2 : Rd (w1.alloc (.cells #[.int .u64 s, .slice A l.length c, .int .i64 0] 50)) A (nums l) := hr.grown (World.grownBy_alloc w1 _ none) (by simp)
    obtain ⟨g, o, e, _, hcell⟩ := hr2 (by simpa [nums] using h0)
    have hlt := h3 g o e
    exact ⟨w1.heap.size, g, rfl, ⟨A, c, hb, h1, h2, fun _ => ⟨by omega, by simp; omega, o, e, hcell⟩⟩, hg.size, hlt.1, by simp; omega, grown_up hg (World.grownBy_alloc w1 _ none) (by simp)⟩

/-- What a draw leaves. -/
def Drawn (w : World) (b ga : Nat) (q : Int) (T : TS) (e : Ending) (w' : World) : Prop := e = .returned (.int .u64 (T.val q)) ∧ TapeIs w' b ga (T.next q) ∧ w.grownBy w' (some b)
theorem next_any (b ga : Nat) (q : Int) (T : TS) (w : World) (h : TapeIs w b ga T) (hT : T.ok) (hq : U64 q) :
    Calls Try.prog 12 #[.pointer (some ⟨b, 0, none⟩), .int .u64 q] w (Drawn w b ga q T) := by
  obtain ⟨hx, hs, hd0, hd1⟩ := hT
  obtain ⟨A, c, hk, h1, h2, h3⟩ := h
  obtain ⟨l, s, d⟩ := T
  cases l with
  | nil =>
    refine (next_own b A c s d q w hs hq hd0 hd1 hk).mono ?_
    rintro e w' ⟨rfl, hk', hg⟩
    exact ⟨rfl, ⟨A, c, hk', h1, h2, fun h => absurd rfl h⟩, hg⟩
  | cons x l =>
    obtain ⟨hne, hlt, o, rfl, hc⟩ := h3 (by simp)
    have hc0 : w.cell? ⟨ga, o, none⟩ = some (.int .u64 x) := hc 0 _ rfl
    simp only [List.length_cons] at hk h1
    by_cases hlast : 1 < c
    · refine (next_ahead b ga o l.length c x s d q w (hx x (by simp)) hq hd0 hd1 hk hc0 hne (by simpa using h1) hlast h2).mono ?_
      rintro e w' ⟨rfl, hk', hg⟩
      refine ⟨rfl, ⟨_, c - 1, hk', by simp only [TS.next]; omega, by omega, fun _ => ⟨hne, Nat.lt_of_lt_of_le hlt hg.size, o + 1, rfl, fun j u hu => ?_⟩⟩, hg⟩
      rw [World.cell?_of_block (w := w) (hg.block ga hlt (by simpa using hne)), show o + 1 + j = o + (j + 1) by omega]
      exact hc (j + 1) u (by simpa [nums, TS.next] using hu)
    · have hl : l = [] := List.eq_nil_of_length_eq_zero (by omega)
      subst hl
      have hc1 : c = 1 := by simp at h1; omega
      subst hc1
      refine (next_last b ga o x s d q w (hx x (by simp)) hq hd0 hd1 hk hc0 hne).mono ?_
      rintro e w' ⟨rfl, hk', hg⟩
      exact ⟨rfl, ⟨_, 0, hk', Nat.le_refl _, by omega, fun h => absurd rfl h⟩, hg⟩
end Go.Proofs.Ytcabcblopfpbfaa
