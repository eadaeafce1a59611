/- Draws and Copy among the four tapes: one contract whatever number of draws is asked. -/
import Derived.Test.YtcabcblopfpbfaaTapeFour
import Derived.Test.YtcabcblopfpbfaaTapeNames
import Derived.Test.YtcabcblopfpbfaaTapeG
import Derived.Test.YtcabcblopfpbfaaRTapeD
namespace Go.Proofs.Ytcabcblopfpbfaa
open Go.RowKit

def TS.outs (n q : Int) (T : TS) : List Int := if n < 0 ∨ 1024 < n then [] else T.vals q n.toNat
def TS.aft (n q : Int) (T : TS) : TS := if n < 0 ∨ 1024 < n then T else T.run q n.toNat
/-- The tape is sound, has drawn k at most, and has 500 ahead at most. -/
def TS.fit (T : TS) (k : Int) : Prop := T.ok ∧ T.d ≤ k ∧ T.ahead.length ≤ 500
theorem TS.fit_next {T : TS} {k : Int} (q : Int) (h : T.fit k) (hk : k < 4000) : (T.next q).fit (k + 1) := by
  obtain ⟨h1, h2, h3⟩ := h
  refine ⟨TS.ok_next h1 (by omega), ?_, Nat.le_trans (TS.next_ahead_le q T) h3⟩
  rw [TS.next_d]
  omega
theorem TS.run_ahead_le (q : Int) : ∀ (n : Nat) (T : TS), (T.run q n).ahead.length ≤ T.ahead.length
  | 0, _ => Nat.le_refl _
  | n + 1, T => by rw [TS.run_succ]; exact Nat.le_trans (TS.next_ahead_le q _) (TS.run_ahead_le q n T)
theorem TS.fit_aft {T : TS} {k : Int} (n q : Int) (h : T.fit k) (hk : k < 4000) : (T.aft n q).fit (k + 1024) := by
  obtain ⟨h1, h2, h3⟩ := h
  unfold TS.aft
  split
  · exact ⟨h1, by omega, h3⟩
  · have h4 := TS.ok_run (q := q) (n := n.toNat) h1 (by omega)
    exact ⟨h4.1, by omega, Nat.le_trans (TS.run_ahead_le q _ T) h3⟩
theorem TS.outs_length (n q : Int) (T : TS) : (T.outs n q).length ≤ 1024 := by
  unfold TS.outs
  split
  · simp
  · rw [TS.vals_length]; omega

/-- A slice that was drawn: it can be read, and, if anything is in it, it lies in a block of its own, from k on. -/
def Out (w : World) (A : Option Addr) (xs : List Int) (k : Nat) : Prop := Rd w A (nums xs) ∧ (0 < xs.length → ∃ g, A = some ⟨g, 0, none⟩ ∧ k ≤ g ∧ Bk w g 23 (nums xs).toArray)
theorem Out.grown {w w' : World} {A : Option Addr} {xs : List Int} {k b : Nat} (h : Out w A xs k) (hg : w.grownBy w' (some b)) (hb : b < k) : Out w' A xs k := by
  obtain ⟨h1, h2⟩ := h
  refine ⟨fun hn => ?_, fun hp => ?_⟩
  · obtain ⟨g, e, hk, hbk⟩ := h2 (List.length_pos_iff.2 (by intro e0; subst e0; exact hn rfl))
    exact e ▸ (hbk.grown hg (by simp; omega)).rd hn
  · obtain ⟨g, e, hk, hbk⟩ := h2 hp
    exact ⟨g, e, hk, hbk.grown hg (by simp; omega)⟩
def Drw1 (w wx : World) (B : Quad) (T1 T2 T3 T4 : TS) (n q : Int) (e : Ending) (w' : World) : Prop :=
  ∃ A c, e = .returned (.slice A (T1.outs n q).length c) ∧ Hid (Out w' A (T1.outs n q) wx.heap.size ∧ (T1.outs n q).length ≤ c ∧ c ≤ 9223372036854775807) ∧ Hid (Four w w' B (T1.aft n q) T2 T3 T4)
def Drw2 (w wx : World) (B : Quad) (T1 T2 T3 T4 : TS) (n q : Int) (e : Ending) (w' : World) : Prop :=
  ∃ A c, e = .returned (.slice A (T2.outs n q).length c) ∧ Hid (Rd w' A (nums (T2.outs n q))) ∧ Hid (wx.grownBy w' (some B.b2)) ∧ Hid (Four w w' B T1 (T2.aft n q) T3 T4)
theorem four_draws1 (w wx : World) (B : Quad) (T1 T2 T3 T4 : TS) (n q : Int) (k : Int) (h : Hid (Four w wx B T1 T2 T3 T4)) (hT : Hid (T1.fit k)) (hk : Hid (k < 4000)) (hq : Hid (U64 q)) :
    Calls Try.prog 15 #[.pointer (some ⟨B.b1, 0, none⟩), .int .i64 n, .int .u64 q] wx (Drw1 w wx B T1 T2 T3 T4 n q) := by
  obtain ⟨t1, t2, t3, t4, hg, hs, hl⟩ := h.out
  have hl' := hl
  unfold Quad.low at hl'
  have hs' := hs
  unfold Quad.sep at hs'
  have hkk := hk.out
  have hd := hT.out.2.1
  by_cases ho : n < 0 ∨ 1024 < n
  · refine (draws_out B.b1 n q wx ho).mono ?_
    rintro e w' ⟨rfl, rfl⟩
    refine ⟨none, 0, ?_, Lib.hid ?_, ?_⟩
    · rw [TS.outs, if_pos ho]; rfl
    · rw [TS.outs, if_pos ho]; exact ⟨⟨Rd.nil _ _, by simp⟩, by simp, by omega⟩
    · rw [TS.aft, if_pos ho]; exact h
  · have hn : ((n.toNat : Nat) : Int) = n := by omega
    have := draws_any B.b1 B.g1 q n.toNat T1 wx t1 hT.out.1 hq.out (by omega) (by omega) hl'.2.1
    rw [hn] at this
    refine this.mono ?_
    rintro e w' ⟨g, rfl, hb, hgs, ht, hg'⟩
    refine ⟨some ⟨g, 0, none⟩, n.toNat, ?_, Lib.hid ?_, Lib.hid ?_⟩
    · rw [TS.outs, if_neg ho, TS.vals_length]
    · rw [TS.outs, if_neg ho]; exact ⟨⟨hb.rd, fun _ => ⟨g, rfl, hgs, hb⟩⟩, by rw [TS.vals_length]; exact Nat.le_refl _, by omega⟩
    · rw [TS.aft, if_neg ho]
      exact ⟨ht, t2.grown hg' (by simp; omega) (by simp; omega), t3.grown hg' (by simp; omega) (by simp; omega), t4.grown hg' (by simp; omega) (by simp; omega), grown_tape hg hg' (by omega), hs, hl.up hg'.size⟩
theorem four_draws2 (w wx : World) (B : Quad) (T1 T2 T3 T4 : TS) (n q : Int) (k : Int) (h : Hid (Four w wx B T1 T2 T3 T4)) (hT : Hid (T2.fit k)) (hk : Hid (k < 4000)) (hq : Hid (U64 q)) :
    Calls Try.prog 21 #[.pointer (some ⟨B.b2, 0, none⟩), .int .i64 n, .int .u64 q] wx (Drw2 w wx B T1 T2 T3 T4 n q) := by
  obtain ⟨t1, t2, t3, t4, hg, hs, hl⟩ := h.out
  have hl' := hl
  unfold Quad.low at hl'
  have hs' := hs
  unfold Quad.sep at hs'
  have hkk := hk.out
  have hd := hT.out.2.1
  by_cases ho : n < 0 ∨ 1024 < n
  · refine (rdraws_out B.b2 n q wx ho).mono ?_
    rintro e w' ⟨rfl, rfl⟩
    refine ⟨none, 0, ?_, Lib.hid ?_, Lib.hid (World.grownBy.refl _ _), ?_⟩
    · rw [TS.outs, if_pos ho]; rfl
    · rw [TS.outs, if_pos ho]; exact Rd.nil _ _
    · rw [TS.aft, if_pos ho]; exact h
  · have hn : ((n.toNat : Nat) : Int) = n := by omega
    have := rdraws_any B.b2 B.g2 q n.toNat T2 wx t2 hT.out.1 hq.out (by omega) (by omega) hl'.2.2.2.1
    rw [hn] at this
    refine this.mono ?_
    rintro e w' ⟨A, c, rfl, hrd, hgs, ht, hg'⟩
    refine ⟨A, c, ?_, Lib.hid ?_, Lib.hid hg', Lib.hid ?_⟩
    · rw [TS.outs, if_neg ho, TS.vals_length]
    · rw [TS.outs, if_neg ho]; exact hrd
    · rw [TS.aft, if_neg ho]
      exact ⟨t1.grown hg' (by simp; omega) (by simp; omega), ht, t3.grown hg' (by simp; omega) (by simp; omega), t4.grown hg' (by simp; omega) (by simp; omega), grown_tape hg hg' (by omega), hs, hl.up hg'.size⟩
def Cp1 (w : World) (B : Quad) (T T1 T2 T3 T4 : TS) (k : Nat) (e : Ending) (w' : World) : Prop :=
  ∃ b ga, e = .returned (.pointer (some ⟨b, 0, none⟩)) ∧ Hid (TapeIs w' b ga T ∧ k ≤ b ∧ B.low b) ∧ Hid (Four w w' B T1 T2 T3 T4)
def Cp2 (w : World) (B : Quad) (T T1 T2 T3 T4 : TS) (k : Nat) (e : Ending) (w' : World) : Prop :=
  ∃ b ga, e = .returned (.pointer (some ⟨b, 0, none⟩)) ∧ Hid (RTapeIs w' b ga T ∧ k ≤ b ∧ B.low b) ∧ Hid (Four w w' B T1 T2 T3 T4)
theorem four_copy1 (w wx : World) (B : Quad) (T1 T2 T3 T4 : TS) (h : Hid (Four w wx B T1 T2 T3 T4)) (k : Int) (hT : Hid (T1.fit k)) :
    Calls Try.prog 17 #[.pointer (some ⟨B.b1, 0, none⟩)] wx (Cp1 w B T1 T1 T2 T3 T4 w.heap.size) := by
  have hl := hT.out.2.2
  refine (copy_any B.b1 B.g1 T1 wx h.out.1 (by omega)).mono ?_
  rintro e w' ⟨b, ga, rfl, ht, hb, hga, hgl, hg⟩
  exact ⟨b, ga, rfl, Lib.hid ⟨ht, Nat.le_trans h.out.2.2.2.2.1.size hb, h.out.2.2.2.2.2.2.up hb⟩, Lib.hid (h.out.up hg)⟩
theorem four_copy2 (w wx : World) (B : Quad) (T1 T2 T3 T4 : TS) (h : Hid (Four w wx B T1 T2 T3 T4)) (k : Int) (hT : Hid (T2.fit k)) :
    Calls Try.prog 22 #[.pointer (some ⟨B.b2, 0, none⟩)] wx (Cp2 w B T2 T1 T2 T3 T4 w.heap.size) := by
  have hl := hT.out.2.2
  refine (rcopy_any B.b2 B.g2 T2 wx h.out.2.1 (by omega)).mono ?_
  rintro e w' ⟨b, ga, rfl, ht, hb, hga, hgl, hg⟩
  exact ⟨b, ga, rfl, Lib.hid ⟨ht, Nat.le_trans h.out.2.2.2.2.1.size hb, h.out.2.2.2.2.2.2.up hb⟩, Lib.hid (h.out.up hg)⟩
theorem Four.beside {w wx wy : World} {B : Quad} {T1 T2 T3 T4 : TS} {b : Nat} (h : Four w wx B T1 T2 T3 T4) (hg : wx.grownBy wy (some b)) (hb : w.heap.size ≤ b) (hl : B.low b) : Four w wy B T1 T2 T3 T4 :=
  h.far hg (fun g e => by
    injection e with e
    subst e
    unfold Quad.low at hl
    omega)
theorem four_cnext1 (w wx : World) (B : Quad) (T T1 T2 T3 T4 : TS) (b ga : Nat) (q k : Int) (h : Hid (Four w wx B T1 T2 T3 T4)) (hc : Hid (TapeIs wx b ga T ∧ w.heap.size ≤ b ∧ B.low b)) (hT : Hid (T.fit k)) (hq : Hid (U64 q)) :
    Calls Try.prog 12 #[.pointer (some ⟨b, 0, none⟩), .int .u64 q] wx fun e w' => e = .returned (.int .u64 (T.val q)) ∧ Hid (Four w w' B T1 T2 T3 T4) := by
  refine (next_any b ga q T wx hc.out.1 hT.out.1 hq.out).mono ?_
  rintro e w' ⟨rfl, ht, hg'⟩
  exact ⟨rfl, Lib.hid (h.out.beside hg' hc.out.2.1 hc.out.2.2)⟩
theorem four_cnext2 (w wx : World) (B : Quad) (T T1 T2 T3 T4 : TS) (b ga : Nat) (q k : Int) (h : Hid (Four w wx B T1 T2 T3 T4)) (hc : Hid (RTapeIs wx b ga T ∧ w.heap.size ≤ b ∧ B.low b)) (hT : Hid (T.fit k)) (hq : Hid (U64 q)) :
    Calls Try.prog 20 #[.pointer (some ⟨b, 0, none⟩), .int .u64 q] wx fun e w' => e = .returned (.int .u64 (T.val q)) ∧ Hid (Four w w' B T1 T2 T3 T4) := by
  refine (rnext_any b ga q T wx hc.out.1 hT.out.1 hq.out).mono ?_
  rintro e w' ⟨rfl, ht, hg'⟩
  exact ⟨rfl, Lib.hid (h.out.beside hg' hc.out.2.1 hc.out.2.2)⟩
end Go.Proofs.Ytcabcblopfpbfaa
