/- The document's tape (consistoryref12): Draws, walked. -/
import Derived.Test.YtcabcblopfpbfaaRTapeC
namespace Go.Proofs.Ytcabcblopfpbfaa
open Go.RowKit

def RDrawnL (w : World) (b ga : Nat) (q : Int) (n : Nat) (T : TS) (e : Ending) (w' : World) : Prop :=
  ∃ A c, e = .returned (.slice A n c) ∧ Rd w' A (nums (T.vals q n)) ∧ (∀ g o, A = some ⟨g, o, none⟩ → w.heap.size ≤ g) ∧ RTapeIs w' b ga (T.run q n) ∧ w.grownBy w' (some b)

theorem rdraws_out (b : Nat) (n q : Int) (w : World) (h : n < 0 ∨ 1024 < n) : Calls Try.prog 21 #[.pointer (some ⟨b, 0, none⟩), .int .i64 n, .int .u64 q] w fun e w' => e = .returned (.slice none 0 0) ∧ w' = w := by
  by_cases h0 : n < 0
  · have h0' : decide (0 < n) = false := by simp; omega
    clear h
    go_enter Try.func21, Try.ntmps21
    go_wp2_with fail
    go_loopw [7, 8] (fun s7 s8 wr => s7 = .slice none 0 0 ∧ s8 = .int .i64 0 ∧ wr = w) (fun _ _ _ => 0)
    case atStart => exact ⟨rfl, rfl, rfl⟩
    case round =>
      obtain ⟨rfl, rfl, rfl⟩ := hrel
      go_wp2
      go_ret
      exact ⟨rfl, rfl⟩
  · have h0' : decide (0 < n) = true := by simp; omega
    have h1' : decide (n ≤ 1024) = false := by simp; omega
    clear h
    go_enter Try.func21, Try.ntmps21
    go_wp2_with fail
    go_loopw [7, 8] (fun s7 s8 wr => s7 = .slice none 0 0 ∧ s8 = .int .i64 0 ∧ wr = w) (fun _ _ _ => 0)
    case atStart => exact ⟨rfl, rfl, rfl⟩
    case round =>
      obtain ⟨rfl, rfl, rfl⟩ := hrel
      go_wp2
      go_ret
      exact ⟨rfl, rfl⟩

set_option maxHeartbeats 400000 in
theorem rdraws_any (b ga : Nat) (q : Int) (n : Nat) (T : TS) (w : World) (h : RTapeIs w b ga T) (hT : T.ok) (hq : U64 q) (hn : n ≤ 1024) (hd : T.d + n < 4611686018427387904) (hga : ga < w.heap.size) :
    Calls Try.prog 21 #[.pointer (some ⟨b, 0, none⟩), .int .i64 n, .int .u64 q] w (RDrawnL w b ga q n T) := by
  have hlt := h.lt
  have HB := Lib.hid (And.intro hlt hga)
  have H := Lib.hid h
  have HT := Lib.hid hT
  have HQ := Lib.hid hq
  have hn1 : decide ((n : Int) ≤ 1024) = true := by simp; omega
  obtain ⟨i0, hi, hz0, hz1, hz2⟩ := info_parts u64_info
  clear h hT hq hlt hga
  go_enter Try.func21, Try.ntmps21
  go_wp2_with fail
  go_loopg [7, 8] n (fun k s7 s8 wx => ∃ j : Nat, j + k = n ∧ s8 = .int .i64 j ∧ Hid (wx.ownsRow w.heap.size 23 1 s7 j (nums (T.vals q j)) ∧ RTapeIs wx b ga (T.run q j) ∧ w.grownBy wx (some b)))
  case atStart => exact ⟨0, by omega, rfl, Lib.hid ⟨World.ownsRow_nil _ _ _ _, H.out, World.grownBy.refl w _⟩⟩
  case round =>
    obtain ⟨j, hj, rfl, HX⟩ := hrel
    cases gk with
    | zero =>
      obtain rfl : j = n := by omega
      obtain ⟨ow, tw, hg⟩ := HX.out
      obtain ⟨A, c, rfl, hrd, hfar⟩ := own_sl ow
      have HE : Hid (RDrawnL w b ga q j T (.returned (.slice A j c)) wr) := Lib.hid ⟨A, c, rfl, hrd, hfar, tw, hg⟩
      clear HX ow tw hg hrd hfar
      go_wp2
      go_ret
      exact HE.out
    | succ k =>
      have hjn : (j : Int) < (n : Int) := by omega
      have hok := TS.ok_run (q := q) (n := j) HT.out (by omega)
      have HN := Lib.hid (rnext_any b ga q (T.run q j) wr HX.out.2.1 hok.1 HQ.out)
      have HVl := Lib.hid (TS.vals_succ q j T)
      have HSt := Lib.hid (TS.run_succ q j T)
      have hvlen : (nums (T.vals q j)).length = j := by simp [nums, TS.vals_length]
      go_wp2_with fail
      refine HN.out.mono ?_
      rintro e w5 ⟨rfl, ht1, hg1⟩
      have hown : w5.ownsRow w.heap.size 23 1 u7 j (nums (T.vals q j)) := HX.out.1.kept hg1 (by
        rcases ho : u7.ownBlock with _ | g
        · exact .inl rfl
        · right
          intro e
          injection e with e
          have := HX.out.1.lt g ho
          have := HB.out
          omega)
      have hown1 := hown.alloc (.cells #[.int .u64 ((T.run q j).val q)] 23)
      have hc : ∀ j' u, ([Value.int .u64 ((T.run q j).val q)] : List Value)[j']? = some u → (w5.alloc (.cells #[.int .u64 ((T.run q j).val q)] 23)).cell? ((⟨w5.heap.size, 0, none⟩ : Addr).add j') = some u :=
        (Bk.new w5 23 ([Value.int .u64 ((T.run q j).val q)] : List Value).toArray : Bk _ _ _ ([Value.int .u64 ((T.run q j).val q)] : List Value).toArray).rd.addr
      have hbs : w.heap.size ≤ w5.heap.size := (HX.out.2.2.trans hg1).size
      go_wp2_with (at_builtin; refine wpList_append_own _ rfl (.tmp 18) (.tmp 22) 22 rfl w.heap.size 23 i0 (.int .u64 0) 1 8 Try.underlying22 hi hz0 hz1 hz2 rfl (by decide) _ _ _ rfl hown1 ⟨w5.heap.size, 0, none⟩ 1 1 [.int .u64 ((T.run q j).val q)] rfl rfl hc (by simp [Value.oneCell']) (by unfold maxLen; omega) (by omega) (by simp; omega) ?_)
      intro v' w6 hown6 hgrow _
      have HR : Hid (w6.ownsRow w.heap.size 23 1 v' (j + 1) (nums (T.vals q (j + 1))) ∧ RTapeIs w6 b ga (T.run q (j + 1)) ∧ w.grownBy w6 (some b)) := Lib.hid (by
        rw [HVl.out, HSt.out]
        have hfar : ∀ g, u7.ownBlock = some g → w.heap.size ≤ g := fun g e => (hown1.lt g e).1
        have hB := HB.out
        refine ⟨by simpa [nums] using hown6, (ht1.kept (World.grownBy_alloc w5 _ none)).grown hgrow ?_ ?_, ?_⟩
        · intro e; have := hfar b e.symm; omega
        · intro e; have := hfar ga e.symm; omega
        · have h2 : w.grownBy w5 (some b) := HX.out.2.2.trans hg1
          have h3 := World.grownBy_alloc w5 (.cells #[.int .u64 ((T.run q j).val q)] 23) none
          exact ⟨hgrow.os.trans (h3.os.trans h2.os), hgrow.tape.trans (h3.tape.trans h2.tape), hgrow.output.trans (h3.output.trans h2.output), Nat.le_trans h2.size (Nat.le_trans h3.size hgrow.size), fun i hi hne =>
            (hgrow.block i (Nat.lt_of_lt_of_le hi (Nat.le_trans h2.size h3.size)) (fun e => by have := hfar i e.symm; omega)).trans ((h3.block i (Nat.lt_of_lt_of_le hi h2.size) (by simp)).trans (h2.block i hi hne))⟩)
      clear hown6 hgrow hown hown1 hc hbs ht1 hg1 HX
      go_wp2
      go_roundg k
      case measure => omega
      case rel => exact ⟨j + 1, by omega, by go_num, HR⟩
end Go.Proofs.Ytcabcblopfpbfaa
