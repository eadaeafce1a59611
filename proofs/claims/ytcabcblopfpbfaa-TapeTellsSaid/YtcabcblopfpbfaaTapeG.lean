/- tape.Copy, walked. -/
import Derived.Test.YtcabcblopfpbfaaTapeBelow
namespace Go.Proofs.Ytcabcblopfpbfaa
open Go.RowKit

theorem TapeIs.sl {w : World} {b ga : Nat} {l : List Int} {s d : Int} {A : Option Addr} {c : Nat} (hk : Bk w b 50 #[.int .u64 s, .slice A l.length c, .int .i64 d])
    (h1 : l.length ≤ c) (h2 : c ≤ 9223372036854775807) (h3 : l ≠ [] → ga ≠ b ∧ ga < w.heap.size ∧ ∃ o, A = some ⟨ga, o, none⟩ ∧ ∀ j u, (nums l)[j]? = some u → w.cell? ⟨ga, o + j, none⟩ = some u) : SlIs w (.slice A l.length c) l :=
  ⟨A, c, rfl, fun hn => by
    obtain ⟨_, hl, o, e, hc⟩ := h3 (by intro h0; rw [h0] at hn; exact hn rfl)
    exact ⟨ga, o, e, hl, hc⟩, h1, h2⟩

set_option maxHeartbeats 400000 in
theorem copy_any (b ga : Nat) (T : TS) (w : World) (h : TapeIs w b ga T) (hn : T.ahead.length * 8 ≤ 140737488351232) :
    Calls Try.prog 17 #[.pointer (some ⟨b, 0, none⟩)] w (TapeMade w T) := by
  have H := Lib.hid h
  obtain ⟨l, s, d⟩ := T
  obtain ⟨A, c, hk, h1, h2, h3⟩ := h
  have hlt := hk.lt
  have c0 : w.cell? ⟨b, 0, none⟩ = some (.int .u64 s) := hk.cell 0
  have c1 : w.cell? ⟨b, 1, none⟩ = some (.slice A l.length c) := hk.cell 1
  have c2 : w.cell? ⟨b, 2, none⟩ = some (.int .i64 d) := hk.cell 2
  have hs := (TapeIs.sl hk h1 h2 h3).kept (World.grownBy_alloc w (.cells #[.int .u64 s, .slice A l.length c, .int .i64 d] 50) none)
  have HC := Lib.hid (clone_any _ l _ hs hn)
  clear hk h3 hs
  go_enter Try.func17, Try.ntmps17
  go_wp2_with fail
  refine HC.out.mono ?_
  rintro e w1 ⟨A1, c1', rfl, hr, g1, g2, g3, hg⟩
  have hb : Bk w1 w.heap.size 50 #[.int .u64 s, .slice A l.length c, .int .i64 d] := (Bk.new w _ _).grown hg (by simp)
  have k1 : w1.cell? ⟨w.heap.size, 1, none⟩ = some (.slice A l.length c) := hb.cell 1
  have f1 : w1.frozen? ⟨w.heap.size, 1, none⟩ = false := hb.free 1
  have HX := Lib.hid (And.intro hb (And.intro hr (And.intro g1 (And.intro g2 (And.intro g3 hg)))))
  clear hb hr g1 g2 g3 hg
  go_wp2
  go_ret
  obtain ⟨hb, hr, g1, g2, g3, hg⟩ := HX.out
  have hset : Bk (w1.setCell ⟨w.heap.size, 1, none⟩ (.slice A1 l.length c1')) w.heap.size 50 #[.int .u64 s, .slice A1 l.length c1', .int .i64 d] := (hb.set 1 _).of_eq rfl
  have hgs : w1.grownBy (w1.setCell ⟨w.heap.size, 1, none⟩ (.slice A1 l.length c1')) (some w.heap.size) := grownBy_set (World.grownBy.refl w1 _) 1 _
  have hG : w.grownBy (w1.setCell ⟨w.heap.size, 1, none⟩ (.slice A1 l.length c1')) none := grown_up (grown_up (World.grownBy_alloc w _ none) hg (by simp)) hgs (by simp)
  have hsz : w.heap.size + 1 ≤ w1.heap.size := by have := hg.size; simpa using this
  by_cases h0 : l = []
  · subst h0
    exact ⟨w.heap.size, w.heap.size, rfl, ⟨A1, c1', hset, g1, g2, fun h => absurd rfl h⟩, Nat.le_refl _, Nat.le_refl _, by simp [World.setCell]; omega, hG⟩
  · obtain ⟨g, o, e, hgl, hcell⟩ := hr (by simpa [nums] using h0)
    have hlt := g3 g o e
    simp at hlt
    exact ⟨w.heap.size, g, rfl, ⟨A1, c1', hset, g1, g2, fun _ => ⟨by show g ≠ w.heap.size; omega, by simp [World.setCell]; omega, o, e, fun j u hu => by rw [World.cell?_of_block (w := w1) (hgs.block g hlt.2 (by simp; omega))]; exact hcell j u hu⟩⟩, Nat.le_refl _, by omega, by simp [World.setCell]; omega, hG⟩

theorem own_sl {w : World} {base : Nat} {e : TypeId} {v : Value} {n : Nat} {xs : List Value} (h : w.ownsRow base e 1 v n xs) : ∃ A c, v = .slice A n c ∧ Rd w A xs ∧ ∀ g o, A = some ⟨g, o, none⟩ → base ≤ g := by
  rcases h.2 with ⟨hv, h0⟩ | ⟨g, cap, cur, hv, hb, _⟩
  · subst h0
    have hx : xs = [] := List.eq_nil_of_length_eq_zero (by have := h.1; omega)
    subst hx
    exact ⟨none, 0, hv, Rd.nil _ _, by simp⟩
  · subst hv
    exact ⟨_, cap, rfl, Rd.own h, fun g' o e => by injection e with e; injection e with e1 e2 e3; subst e1; exact hb⟩
/-- Two tapes, the second one laid behind the first one; nothing that w knows has changed. -/
def Two (w wx : World) (b1 ga1 b2 ga2 : Nat) (T1 T2 : TS) : Prop := TapeIs wx b1 ga1 T1 ∧ TapeIs wx b2 ga2 T2 ∧ w.grownBy wx none ∧ b1 < b2 ∧ ga1 < b2 ∧ b1 < ga2 ∧ w.heap.size ≤ b1 ∧ ga1 < wx.heap.size
theorem Two.up {w wx wy : World} {b1 ga1 b2 ga2 : Nat} {T1 T2 : TS} (h : Two w wx b1 ga1 b2 ga2 T1 T2) (hg : wx.grownBy wy none) : Two w wy b1 ga1 b2 ga2 T1 T2 :=
  ⟨h.1.kept hg, h.2.1.kept hg, h.2.2.1.trans hg, h.2.2.2.1, h.2.2.2.2.1, h.2.2.2.2.2.1, h.2.2.2.2.2.2.1, Nat.lt_of_lt_of_le h.2.2.2.2.2.2.2 hg.size⟩
theorem two_fst (w wx : World) (b1 ga1 b2 ga2 : Nat) (T1 T2 : TS) (q : Int) (h : Hid (Two w wx b1 ga1 b2 ga2 T1 T2)) (hT : Hid T1.ok) (hq : Hid (U64 q)) :
    Calls Try.prog 12 #[.pointer (some ⟨b1, 0, none⟩), .int .u64 q] wx fun e w' => e = .returned (.int .u64 (T1.val q)) ∧ Hid (Two w w' b1 ga1 b2 ga2 (T1.next q) T2) ∧ Hid (wx.grownBy w' (some b1)) := by
  obtain ⟨t1, t2, hg, k1, k2, k3, k4, k5⟩ := h.out
  refine (next_any b1 ga1 q T1 wx t1 hT.out hq.out).mono ?_
  rintro e w' ⟨rfl, ht, hg'⟩
  exact ⟨rfl, Lib.hid ⟨ht, t2.grown hg' (by simp; omega) (by simp; omega), grown_tape hg hg' k4, k1, k2, k3, k4, Nat.lt_of_lt_of_le k5 hg'.size⟩, Lib.hid hg'⟩
theorem two_snd (w wx : World) (b1 ga1 b2 ga2 : Nat) (T1 T2 : TS) (q : Int) (h : Hid (Two w wx b1 ga1 b2 ga2 T1 T2)) (hT : Hid T2.ok) (hq : Hid (U64 q)) :
    Calls Try.prog 12 #[.pointer (some ⟨b2, 0, none⟩), .int .u64 q] wx fun e w' => e = .returned (.int .u64 (T2.val q)) ∧ Hid (Two w w' b1 ga1 b2 ga2 T1 (T2.next q)) ∧ Hid (wx.grownBy w' (some b2)) := by
  obtain ⟨t1, t2, hg, k1, k2, k3, k4, k5⟩ := h.out
  refine (next_any b2 ga2 q T2 wx t2 hT.out hq.out).mono ?_
  rintro e w' ⟨rfl, ht, hg'⟩
  exact ⟨rfl, Lib.hid ⟨t1.grown hg' (by simp; omega) (by simp; omega), ht, grown_tape hg hg' (by omega), k1, k2, k3, k4, Nat.lt_of_lt_of_le k5 hg'.size⟩, Lib.hid hg'⟩
theorem Two.far {w wx wy : World} {b1 ga1 b2 ga2 : Nat} {T1 T2 : TS} {row : Option Nat} (h : Two w wx b1 ga1 b2 ga2 T1 T2) (hg : wx.grownBy wy row) (hr : ∀ g, row = some g → b1 < g ∧ ga1 < g ∧ b2 < g ∧ ga2 < g) : Two w wy b1 ga1 b2 ga2 T1 T2 := by
  obtain ⟨t1, t2, hg0, k1, k2, k3, k4, k5⟩ := h
  refine ⟨t1.grown hg ?_ ?_, t2.grown hg ?_ ?_, grown_up hg0 hg ?_, k1, k2, k3, k4, Nat.lt_of_lt_of_le k5 hg.size⟩
  · intro e; have := hr b1 e.symm; omega
  · intro e; have := hr ga1 e.symm; omega
  · intro e; have := hr b2 e.symm; omega
  · intro e; have := hr ga2 e.symm; omega
  · intro g e; have := hr g e; omega
/-- A copy laid behind the first one takes the second one's place. -/
theorem Two.copy {w wx wy : World} {b1 ga1 b2 ga2 b3 ga3 : Nat} {T1 T2 T3 : TS} (h : Two w wx b1 ga1 b2 ga2 T1 T2) (ht : TapeIs wy b3 ga3 T3) (hb : wx.heap.size ≤ b3) (hga : wx.heap.size ≤ ga3) (hg : wx.grownBy wy none) : Two w wy b1 ga1 b3 ga3 T1 T3 := by
  obtain ⟨t1, t2, hg0, k1, k2, k3, k4, k5⟩ := h
  have := t1.lt
  exact ⟨t1.kept hg, ht, hg0.trans hg, by omega, by omega, by omega, k4, Nat.lt_of_lt_of_le k5 hg.size⟩
theorem Two.drew {w wx : World} {b1 ga1 b2 ga2 : Nat} {T1 T2 : TS} (h : Hid (Two w wx b1 ga1 b2 ga2 T1 T2)) : Hid (Two w wx.drew b1 ga1 b2 ga2 T1 T2) := Lib.hid (h.out.up (grownBy_drewN (World.grownBy.refl wx none) 1))

def TS.valsL : List Int → TS → List Int
  | [], _ => []
  | q :: r, T => T.val q :: TS.valsL r (T.next q)
theorem TS.valsL_snoc : ∀ (l : List Int) (q : Int) (T : TS), TS.valsL (l ++ [q]) T = TS.valsL l T ++ [(TS.runL l T).val q]
  | [], _, _ => rfl
  | p :: r, q, T => by
    show T.val p :: TS.valsL (r ++ [q]) (T.next p) = _
    rw [TS.valsL_snoc r q (T.next p)]
    rfl
theorem TS.valsL_length : ∀ (l : List Int) (T : TS), (TS.valsL l T).length = l.length
  | [], _ => rfl
  | q :: r, T => by simp [TS.valsL, TS.valsL_length r]
theorem TS.valsL_at : ∀ (l : List Int) (T : TS) (j : Nat) (h : j < l.length), (TS.valsL l T)[j]'(by rw [TS.valsL_length]; exact h) = (TS.runL (l.take j) T).val l[j]
  | q :: r, T, 0, _ => rfl
  | q :: r, T, j + 1, h => by
    have := TS.valsL_at r (T.next q) j (by simpa using h)
    simpa [TS.valsL, TS.runL] using this
theorem TS.next_ahead_le (q : Int) (T : TS) : (T.next q).ahead.length ≤ T.ahead.length := by
  obtain ⟨l, s, d⟩ := T
  cases l with
  | nil => exact Nat.le_refl _
  | cons x l => simp [TS.next]
theorem TS.runL_ahead_le : ∀ (l : List Int) (T : TS), (TS.runL l T).ahead.length ≤ T.ahead.length
  | [], _ => Nat.le_refl _
  | q :: r, T => Nat.le_trans (TS.runL_ahead_le r (T.next q)) (TS.next_ahead_le q T)
theorem TS.runL_step (l : List Int) (j : Nat) (h : j < l.length) (T : TS) : TS.runL (l.take (j + 1)) T = (TS.runL (l.take j) T).next l[j] := by rw [List.take_succ_eq_append_getElem h, TS.runL_snoc]
theorem TS.valsL_step (l : List Int) (j : Nat) (h : j < l.length) (T : TS) : TS.valsL (l.take (j + 1)) T = TS.valsL (l.take j) T ++ [(TS.runL (l.take j) T).val l[j]] := by rw [List.take_succ_eq_append_getElem h, TS.valsL_snoc]
theorem TS.runL_take_ok (l : List Int) (j : Nat) (hj : j ≤ l.length) (T : TS) (h : T.ok) (hd : T.d + l.length < 4611686018427387904) : (TS.runL (l.take j) T).ok ∧ (TS.runL (l.take j) T).d = T.d + j := by
  have hlen : (l.take j).length = j := by rw [List.length_take]; omega
  have := TS.ok_runL (l.take j) T h (by rw [hlen]; omega)
  rwa [hlen] at this
end Go.Proofs.Ytcabcblopfpbfaa
