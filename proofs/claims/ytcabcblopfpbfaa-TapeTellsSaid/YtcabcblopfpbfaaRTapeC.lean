/- The document's tape (consistoryref12): Of, Copy, Draws, walked. -/
import Derived.Test.YtcabcblopfpbfaaRTapeB
import Derived.Deep.RegionHeld3
import Derived.Deep.AppendLies
namespace Go.Proofs.Ytcabcblopfpbfaa
open Go.RowKit

theorem step_append_own {P : Program} {w : World} {ops : Array Oper} {o : Oper} {a : Act} {K : Act → World → Prop} {Q : Exit → Act → World → Prop} {E : Prop} (hgd : o.guard = none) (s x : Operand) (t : TypeId)
    (ho : o.op = .call { callee := .builtin .append, args := #[s, x], argTypes := #[t, t] })
    (base : Nat) (e : TypeId) (i : TypeInfo) (z : Value) (size bytes : Nat) (ht : P.underlying t = some (.slice e)) (hi : P.info? e = some i) (hz : i.zero = some z)
    (hsize : i.size = size) (hby : i.bytes = bytes) (hzs : z.cells.size = size) (hsz : 0 < size)
    (v : Value) (n : Nat) (xs : List Value) (hs : a.eval s = v) (hown : w.ownsRow base e size v n xs)
    (ad : Addr) (m c : Nat) (news : List Value) (hx : a.eval x = .slice (some ad) m c) (hl : news.length = m * size) (hnews : ∀ j u, news[j]? = some u → w.cell? (ad.add j) = some u) (h1 : ∀ u ∈ news, u.oneCell' = true)
    (h63 : n + m ≤ maxLen) (hbytes : (n + m) * bytes ≤ 140737488355328) (hbase : base ≤ w.heap.size)
    (h : ∀ v' w', w'.ownsRow base e size v' (n + m) (xs ++ news) → w.grownBy w' v.ownBlock → K (a.put o.dst v') w') :
    if Region.wanted o (yielded ops a.tmps) = true then Oper.wp P o a w K Q else E := by
  have hw : Region.wanted o (yielded ops a.tmps) = true := by simp [Region.wanted, hgd]
  rw [if_pos hw]
  exact wp_append_own w s x t ho base e i z size bytes ht hi hz hsize hby hzs hsz v n xs hs hown ad m c news hx hl hnews h1 h63 hbytes hbase fun v' w' h2 h3 _ => h v' w' h2 h3
theorem grown_drew_alloc (w : World) (o : Obj) : w.grownBy (w.drew.alloc o) none := World.grownBy.trans (b := w.drew) (grownBy_drewN (World.grownBy.refl w none) 1) (World.grownBy_alloc w.drew o none)
/-- A document's tape laid behind its numbers. -/
theorem rmade_of {w w1 : World} {A : Option Addr} {l : List Int} {s d : Int} {c : Nat} (hr : Rd w1 A (nums l)) (h1 : l.length ≤ c) (h2 : c ≤ 9223372036854775807) (h3 : ∀ g o, A = some ⟨g, o, none⟩ → w.heap.size ≤ g ∧ g < w1.heap.size) (hg : w.grownBy w1 none) :
    RTapeMade w ⟨l, s, d⟩ (.returned (.pointer (some ⟨w1.heap.size, 0, none⟩))) (w1.alloc (.cells #[.slice A l.length c, .int .u64 s, .int .i64 d] 42)) := by
  have hb : Bk (w1.alloc (.cells #[.slice A l.length c, .int .u64 s, .int .i64 d] 42)) w1.heap.size 42 #[.slice A l.length c, .int .u64 s, .int .i64 d] := Bk.new w1 _ _
  by_cases h0 : l = []
  · subst h0
    exact ⟨w1.heap.size, w1.heap.size, rfl, ⟨A, c, hb, h1, h2, fun h => absurd rfl h⟩, hg.size, hg.size, by simp, grown_up hg (World.grownBy_alloc w1 _ none) (by simp)⟩
  · have hr2 : Rd (w1.alloc (.cells #[.slice A l.length c, .int .u64 s, .int .i64 d] 42)) A (nums l) := hr.grown (World.grownBy_alloc w1 _ none) (by simp)
    obtain ⟨g, o, e, _, hcell⟩ := hr2 (by simpa [nums] using h0)
    have hlt := h3 g o e
    exact ⟨w1.heap.size, g, rfl, ⟨A, c, hb, h1, h2, fun _ => ⟨by omega, by simp; omega, o, e, hcell⟩⟩, hg.size, hlt.1, by simp; omega, grown_up hg (World.grownBy_alloc w1 _ none) (by simp)⟩
/-- What a copied slice is, told as a slice's parts. -/
theorem cloned_parts {w w0 w1 : World} {l : List Int} {v : Value} {n : Nat} {row : Option Nat} (hn : n = l.length) (hown : w1.ownsRow w.heap.size 23 1 v n (nums l)) (hg0 : w.grownBy w0 none) (hg : w0.grownBy w1 row) (hr : ∀ g, row = some g → w.heap.size ≤ g) :
    ∃ A c, v = .slice A l.length c ∧ Rd w1 A (nums l) ∧ l.length ≤ c ∧ c ≤ 9223372036854775807 ∧ (∀ g o, A = some ⟨g, o, none⟩ → w.heap.size ≤ g ∧ g < w1.heap.size) ∧ w.grownBy w1 none := by
  obtain ⟨A, c, hv, h⟩ := cloned_of hn hown hg0 hg hr
  exact ⟨A, c, by injection hv, h⟩

set_option maxHeartbeats 400000 in
theorem rof_some (x : Addr) (c : Nat) (l : List Int) (s : Int) (w : World) (hr : Rd w (some x) (nums l)) (hn : l.length * 8 ≤ 140737488351232) :
    Calls Try.prog 18 #[.slice (some x) l.length c, .int .u64 s] w (RTapeMade w ⟨l, s, 0⟩) := by
  obtain ⟨i0, hi, hz0, hz1, hz2⟩ := info_parts u64_info
  have hown := World.ownsRow_made (base := w.heap.size) (e := 23) (size := 1) w #[] 0 (Nat.le_refl _) (Nat.zero_le _) rfl
  have hr1 : Rd (w.alloc (.cells #[] 23)) (some x) (nums l) := hr.grown (World.grownBy_alloc w _ none) (by simp)
  have hc := hr1.addr
  go_enter Try.func18, Try.ntmps18
  go_wp2_with (at_builtin; refine wpList_append_own _ rfl (.tmp 5) (.tmp 6) 22 rfl w.heap.size 23 i0 (.int .u64 0) 1 8 Try.underlying22 hi hz0 hz1 hz2 rfl (by decide) _ _ _ rfl hown x l.length c (nums l) rfl (by simp [nums]) hc (nums_one l) (by unfold maxLen; omega) (by omega) (by simp) ?_)
  intro v' w1 hown1 hgrow _
  obtain ⟨A, c', rfl, HX⟩ := cloned_parts (by simp) hown1 (World.grownBy_alloc w _ none) hgrow (by simp [Value.ownBlock])
  have HXX := Lib.hid HX
  clear hown1 hgrow hc hr1 hown HX
  go_wp2
  go_ret
  obtain ⟨hr, h1, h2, h3, hg⟩ := HXX.out
  exact rmade_of hr h1 h2 h3 hg

set_option maxHeartbeats 400000 in
theorem rof_none (c : Nat) (s : Int) (w : World) :
    Calls Try.prog 18 #[.slice none 0 c, .int .u64 s] w (RTapeMade w ⟨[], s, 0⟩) := by
  go_enter Try.func18, Try.ntmps18
  go_wp2_with fail
  go_ret
  have h := rmade_of (s := s) (d := 0) (w := w) (w1 := w.alloc (.cells #[] 23)) (A := some ⟨w.heap.size, 0, none⟩) (l := []) (c := 0) (Rd.nil _ _) (Nat.le_refl _) (by omega) (by intro g o e; injection e with e; injection e with e1 e2 e3; subst e1; simp) (World.grownBy_alloc w _ none)
  rw [World.size_alloc] at h
  exact h
theorem rof_made (v : Value) (l : List Int) (s : Int) (w : World) (h : SlIs w v l) (hn : l.length * 8 ≤ 140737488351232) :
    Calls Try.prog 18 #[v, .int .u64 s] w (RTapeMade w ⟨l, s, 0⟩) := by
  obtain ⟨A, c, rfl, hr, _, _⟩ := h
  cases A with
  | none =>
    have hl : l = [] := by
      cases l with
      | nil => rfl
      | cons x l => obtain ⟨g, o, e, _⟩ := hr (by simp [nums]); cases e
    subst hl
    exact rof_none c s w
  | some x => exact rof_some x c l s w hr hn

set_option maxHeartbeats 400000 in
theorem rcopy_some (b : Nat) (x : Addr) (c : Nat) (l : List Int) (s d : Int) (w : World) (hk : Bk w b 42 #[.slice (some x) l.length c, .int .u64 s, .int .i64 d]) (hr : Rd w (some x) (nums l)) (hn : l.length * 8 ≤ 140737488351232) :
    Calls Try.prog 22 #[.pointer (some ⟨b, 0, none⟩)] w (RTapeMade w ⟨l, s, d⟩) := by
  obtain ⟨i0, hi, hz0, hz1, hz2⟩ := info_parts u64_info
  have hown := World.ownsRow_made (base := w.heap.size) (e := 23) (size := 1) w #[] 0 (Nat.le_refl _) (Nat.zero_le _) rfl
  have hr1 : Rd (w.alloc (.cells #[] 23)) (some x) (nums l) := hr.grown (World.grownBy_alloc w _ none) (by simp)
  have hc := hr1.addr
  have hlt := hk.lt
  have c0 : w.cell? ⟨b, 0, none⟩ = some (.slice (some x) l.length c) := hk.cell 0
  have c1 : w.cell? ⟨b, 1, none⟩ = some (.int .u64 s) := hk.cell 1
  have c2 : w.cell? ⟨b, 2, none⟩ = some (.int .i64 d) := hk.cell 2
  clear hk
  go_enter Try.func22, Try.ntmps22
  go_wp2_with fail
  go_region_held3 (fun w' => w'.cell? ⟨b, 0, none⟩ = some (.slice (some x) l.length c) ∧ w'.cell? ⟨b, 1, none⟩ = some (.int .u64 s) ∧ w'.cell? ⟨b, 2, none⟩ = some (.int .i64 d))
    (first
      | exact ⟨by assumption, by assumption, by assumption⟩
      | go_keep)
    ((refine step_append_own (by rfl) (.tmp 3) (.tmp 7) 22 (by rfl) w.heap.size 23 i0 (.int .u64 0) 1 8 Try.underlying22 hi hz0 hz1 hz2 rfl (by decide) _ _ _ (by rfl) hown x l.length c (nums l) (by rfl) (by simp [nums]) hc (nums_one l) (by unfold maxLen; omega) (by omega) (by simp) ?_; intro v' w1 hown1 hgrow; obtain ⟨A', c', rfl, HX⟩ := cloned_parts (by simp) hown1 (grown_drew_alloc w (.cells #[] 23)) hgrow (by simp [Value.ownBlock]); have hGG := HX.2.2.2.2; have k0 : w1.cell? ⟨b, 0, none⟩ = some (.slice (some x) l.length c) := (World.cell?_of_block (w := w) (hGG.block b hlt (by simp))).trans c0; have k1 : w1.cell? ⟨b, 1, none⟩ = some (.int .u64 s) := (World.cell?_of_block (w := w) (hGG.block b hlt (by simp))).trans c1; have k2 : w1.cell? ⟨b, 2, none⟩ = some (.int .i64 d) := (World.cell?_of_block (w := w) (hGG.block b hlt (by simp))).trans c2))
  have HXX := Lib.hid HX
  clear hown1 hgrow hc hr1 hown HX k0 k1 k2 hGG
  go_wp2
  go_ret
  obtain ⟨hr, h1, h2, h3, hg⟩ := HXX.out
  exact rmade_of hr h1 h2 h3 hg

set_option maxHeartbeats 400000 in
theorem rcopy_none (b c : Nat) (s d : Int) (w : World) (hk : Bk w b 42 #[.slice none 0 c, .int .u64 s, .int .i64 d]) :
    Calls Try.prog 22 #[.pointer (some ⟨b, 0, none⟩)] w (RTapeMade w ⟨[], s, d⟩) := by
  have hlt := hk.lt
  have c0 : w.cell? ⟨b, 0, none⟩ = some (.slice none 0 c) := hk.cell 0
  have c1 : w.cell? ⟨b, 1, none⟩ = some (.int .u64 s) := hk.cell 1
  have c2 : w.cell? ⟨b, 2, none⟩ = some (.int .i64 d) := hk.cell 2
  clear hk
  go_enter Try.func22, Try.ntmps22
  go_wp2_with fail
  go_region_held3 (fun w' => w'.cell? ⟨b, 0, none⟩ = some (.slice none 0 c) ∧ w'.cell? ⟨b, 1, none⟩ = some (.int .u64 s) ∧ w'.cell? ⟨b, 2, none⟩ = some (.int .i64 d)) (go_keep) (fail)
  go_wp2
  go_ret
  have h := rmade_of (s := s) (d := d) (w := w) (w1 := w.drew.alloc (.cells #[] 23)) (A := some ⟨w.heap.size, 0, none⟩) (l := []) (c := 0) (Rd.nil _ _) (Nat.le_refl _) (by omega) (by intro g o e; injection e with e; injection e with e1 e2 e3; subst e1; simp) (grown_drew_alloc w _)
  rw [World.size_alloc] at h
  exact h
theorem rcopy_any (b ga : Nat) (T : TS) (w : World) (h : RTapeIs w b ga T) (hn : T.ahead.length * 8 ≤ 140737488351232) :
    Calls Try.prog 22 #[.pointer (some ⟨b, 0, none⟩)] w (RTapeMade w T) := by
  obtain ⟨A, c, hk, h1, h2, h3⟩ := h
  obtain ⟨l, s, d⟩ := T
  have hr : Rd w A (nums l) := fun hn => by
    obtain ⟨_, hl, o, e, hc⟩ := h3 (by intro h0; rw [show l = [] from h0] at hn; exact hn rfl)
    exact ⟨ga, o, e, hl, hc⟩
  cases A with
  | none =>
    have hl : l = [] := by
      cases l with
      | nil => rfl
      | cons x l => obtain ⟨g, o, e, _⟩ := hr (by simp [nums]); cases e
    subst hl
    exact rcopy_none b c s d w hk
  | some x => exact rcopy_some b x c l s d w hk hr hn
end Go.Proofs.Ytcabcblopfpbfaa
