/- The document's tape (consistoryref12): own, Next of its own numbers, walked. -/
import Derived.Test.YtcabcblopfpbfaaTapeG
namespace Go.Proofs.Ytcabcblopfpbfaa
open Go.RowKit

/-- The document's tape that lies in block b; what is told ahead, if anything is left, lies in block ga. -/
def RTapeIs (w : World) (b ga : Nat) (T : TS) : Prop :=
  ∃ A c, Bk w b 42 #[.slice A T.ahead.length c, .int .u64 T.s, .int .i64 T.d] ∧ T.ahead.length ≤ c ∧ c ≤ 9223372036854775807 ∧
    (T.ahead ≠ [] → ga ≠ b ∧ ga < w.heap.size ∧ ∃ o, A = some ⟨ga, o, none⟩ ∧ ∀ j u, (nums T.ahead)[j]? = some u → w.cell? ⟨ga, o + j, none⟩ = some u)
theorem RTapeIs.grown {w w' : World} {b ga : Nat} {T : TS} {row : Option Nat} (h : RTapeIs w b ga T) (hg : w.grownBy w' row) (hb : some b ≠ row) (ha : some ga ≠ row) : RTapeIs w' b ga T := by
  obtain ⟨A, c, hk, h1, h2, h3⟩ := h
  refine ⟨A, c, hk.grown hg hb, h1, h2, fun hn => ?_⟩
  obtain ⟨h4, h5, o, h6, h7⟩ := h3 hn
  exact ⟨h4, Nat.lt_of_lt_of_le h5 hg.size, o, h6, fun j u hu => (World.cell?_of_block (w := w) (hg.block ga h5 ha)).trans (h7 j u hu)⟩
theorem RTapeIs.kept {w w' : World} {b ga : Nat} {T : TS} (h : RTapeIs w b ga T) (hg : w.grownBy w' none) : RTapeIs w' b ga T :=
  h.grown hg (by simp) (by simp)
theorem RTapeIs.lt {w : World} {b ga : Nat} {T : TS} (h : RTapeIs w b ga T) : b < w.heap.size := by
  obtain ⟨A, c, hk, _⟩ := h
  exact hk.lt

theorem wq (a k : Int) (hk : 0 < k) : IntKind.u64.wrap ((IntKind.u64.wrap a).tdiv k) = IntKind.u64.wrap a / k := by
  rw [wrap64u a]
  have h := emod_bd a 18446744073709551616 (by decide)
  generalize a % 18446744073709551616 = x at *
  rw [Int.tdiv_eq_ediv_of_nonneg h.1, wrap64u]
  have h1 := Int.ediv_nonneg h.1 (Int.le_of_lt hk)
  have h2 := Int.ediv_le_self k h.1
  exact Int.emod_eq_of_lt h1 (by omega)
theorem wq30 (a : Int) : IntKind.u64.wrap ((IntKind.u64.wrap a).tdiv 1073741824) = IntKind.u64.wrap a / 1073741824 := wq a _ (by decide)
theorem wq27 (a : Int) : IntKind.u64.wrap ((IntKind.u64.wrap a).tdiv 134217728) = IntKind.u64.wrap a / 134217728 := wq a _ (by decide)
theorem wq31 (a : Int) : IntKind.u64.wrap ((IntKind.u64.wrap a).tdiv 2147483648) = IntKind.u64.wrap a / 2147483648 := wq a _ (by decide)
set_option maxHeartbeats 400000 in
theorem rown_any (b : Nat) (s : Int) (w : World) (hs : U64 s) (hc : w.cell? ⟨b, 1, none⟩ = some (.int .u64 s)) (hf : w.frozen? ⟨b, 1, none⟩ = false) :
    Calls Try.prog 27 #[.pointer (some ⟨b, 0, none⟩)] w fun e w' => e = .returned (.int .u64 (mixI (nextS s))) ∧ ∃ n, w' = (w.setCell ⟨b, 1, none⟩ (.int .u64 (nextS s))).drewN n := by
  obtain ⟨s0, s1⟩ := hs
  go_enter Try.func27, Try.ntmps27
  go_wp2_with fail
  go_ret
  simp only [wq30, wq27, wq31]
  exact ⟨rfl, 0, rfl⟩

/-- The document's test is tape's own one. -/
theorem acc_gen (N q x : Int) (hN : 0 < N) (hq : 0 < q) (hqN : q < N) (hx : 0 ≤ x) (hxN : x < N) : (N % q ≤ N - 1 - x ↔ x - x % q ≤ (x - x % q + (q - 1)) % N) := by
  have e1 := Int.mul_ediv_add_emod x q
  have e2 := Int.mul_ediv_add_emod N q
  have b1 := emod_bd x q hq
  have b2 := emod_bd N q hq
  have hb : x - x % q = q * (x / q) := by omega
  have hb0 : 0 ≤ x / q := Int.ediv_nonneg hx (by omega)
  have hle : x / q ≤ N / q := Int.ediv_le_ediv hq (by omega)
  have hm0 : 0 ≤ q * (x / q) := Int.mul_nonneg (by omega) hb0
  rw [hb]
  by_cases h : x / q < N / q
  · have h1 : q * (x / q + 1) ≤ q * (N / q) := Int.mul_le_mul_of_nonneg_left (by omega) (by omega)
    rw [Int.mul_add, Int.mul_one] at h1
    have h2 : (q * (x / q) + (q - 1)) % N = q * (x / q) + (q - 1) := Int.emod_eq_of_lt (by omega) (by omega)
    rw [h2]
    constructor <;> intro _ <;> omega
  · have h1 : x / q = N / q := by omega
    rw [h1] at e1 hm0 ⊢
    have h2 : N ≤ q * (N / q) + (q - 1) := by omega
    have h4 : (q * (N / q) + (q - 1)) % N = q * (N / q) + (q - 1) - N := by
      rw [← Int.sub_emod_right, Int.emod_eq_of_lt (by omega) (by omega)]
    rw [h4]
    constructor <;> intro _ <;> omega
theorem emod_le_it (x q : Int) (hx : 0 ≤ x) (hq : 0 < q) : x % q ≤ x := by
  have e := Int.mul_ediv_add_emod x q
  have := Int.mul_nonneg (Int.le_of_lt hq) (Int.ediv_nonneg hx (Int.le_of_lt hq))
  omega
theorem racc (q s : Int) (hq : 0 < q) (hq1 : q < 18446744073709551616) :
    decide (mixI s - mixI s % q ≤ IntKind.u64.wrap (mixI s - mixI s % q + (q - 1))) = accB q s := by
  have hx := mixI_U64 s
  rw [acc_iff, wrap64u]
  unfold overI
  rw [if_neg (by omega)]
  generalize mixI s = x at *
  have h := acc_gen 18446744073709551616 q x (by decide) hq hq1 hx.1 hx.2
  rw [show (18446744073709551616 - 1 - x : Int) = 18446744073709551615 - x by omega] at h
  exact decide_eq_decide.2 h.symm

set_option maxHeartbeats 400000 in
theorem rnext_own (b : Nat) (A : Option Addr) (c : Nat) (s d q : Int) (w : World) (hs : U64 s) (hq : U64 q) (hd0 : 0 ≤ d) (hd : d < 4611686018427387904)
    (hb : Bk w b 42 #[.slice A 0 c, .int .u64 s, .int .i64 d]) :
    Calls Try.prog 20 #[.pointer (some ⟨b, 0, none⟩), .int .u64 q] w fun e w' => e = .returned (.int .u64 (drawX q s)) ∧ Bk w' b 42 #[.slice A 0 c, .int .u64 (drawS q s), .int .i64 (d + 1)] ∧ w.grownBy w' (some b) := by
  have c0 : w.cell? ⟨b, 0, none⟩ = some (.slice A 0 c) := hb.cell 0
  have c1 : w.cell? ⟨b, 1, none⟩ = some (.int .u64 s) := hb.cell 1
  have c2 : w.cell? ⟨b, 2, none⟩ = some (.int .i64 d) := hb.cell 2
  have f1 : w.frozen? ⟨b, 1, none⟩ = false := hb.free 1
  have f2 : w.frozen? ⟨b, 2, none⟩ = false := hb.free 2
  have HB := Lib.hid hb
  have HS := Lib.hid hs
  have HQ := Lib.hid hq
  obtain ⟨q0, q1⟩ := hq
  clear hb hs
  go_enter Try.func20, Try.ntmps20
  go_wp2_with fail
  have hb1 : Bk (w.setCell ⟨b, 2, none⟩ (.int .i64 (d + 1))) b 42 #[.slice A 0 c, .int .u64 s, .int .i64 (d + 1)] := (HB.out.set 2 _).of_eq rfl
  have hg1 : w.grownBy (w.setCell ⟨b, 2, none⟩ (.int .i64 (d + 1))) (some b) := grownBy_set (World.grownBy.refl w _) 2 _
  clear c0 c1 c2 f1 f2
  generalize w.setCell ⟨b, 2, none⟩ (.int .i64 (d + 1)) = w1 at *
  go_loopg [] (kk s) (fun g wx => ∃ s' : Int, kk s' = g ∧ Hid (U64 s') ∧ Hid (drawS q s' = drawS q s) ∧ Hid (Bk wx b 42 #[.slice A 0 c, .int .u64 s', .int .i64 (d + 1)] ∧ w.grownBy wx (some b)))
  case atStart => exact ⟨s, rfl, HS, Lib.hid rfl, Lib.hid ⟨hb1, hg1⟩⟩
  case round =>
    clear hb1 hg1
    obtain ⟨s', hk, hs', HD, HX⟩ := hrel
    have d0 : wr.cell? ⟨b, 1, none⟩ = some (.int .u64 s') := HX.out.1.cell 1
    have g0 : wr.frozen? ⟨b, 1, none⟩ = false := HX.out.1.free 1
    have HN := Lib.hid (rown_any b s' wr hs'.out d0 g0)
    have HX2 : Hid (Bk (wr.setCell ⟨b, 1, none⟩ (.int .u64 (nextS s'))) b 42 #[.slice A 0 c, .int .u64 (nextS s'), .int .i64 (d + 1)] ∧ w.grownBy (wr.setCell ⟨b, 1, none⟩ (.int .u64 (nextS s'))) (some b)) := Lib.hid ⟨(HX.out.1.set 1 _).of_eq rfl, grownBy_set HX.out.2 1 _⟩
    have hkk := Lib.hid hk
    clear d0 g0 hk
    go_wp2_with fail
    refine HN.out.mono ?_
    rintro e w' ⟨rfl, n1, rfl⟩
    by_cases hq0 : q = 0
    · have hq0' : (q == 0) = true := by simpa using hq0
      have hacc : accB q (nextS s') = true := by
        rw [hq0, acc_iff]
        have := mixI_U64 (nextS s')
        unfold U64 at this
        simp [overI]
        omega
      have HE := Lib.hid (draw_yes q s' hs'.out hacc)
      have HQ0 := Lib.hid hq0
      clear hacc hq0
      go_wp2
      go_ret
      have e1 : drawS q s = nextS s' := HD.out.symm.trans HE.out
      refine ⟨?_, ?_, ?_⟩
      · unfold drawX belowI
        rw [e1, if_pos HQ0.out]
        rfl
      · rw [e1]
        exact HX2.out.1
      · exact grownBy_drewN HX2.out.2 _
    · have hq0' : (q == 0) = false := by simpa using hq0
      have hqp : 0 < q := by omega
      have hacd := racc q (nextS s') hqp q1
      have hbx := mixI_U64 (nextS s')
      have hmod := emod_bd (mixI (nextS s')) q hqp
      have hmle : mixI (nextS s') % q ≤ mixI (nextS s') := emod_le_it _ _ hbx.1 hqp
      have HV : Hid (belowI (mixI (nextS s')) q = mixI (nextS s') % q) := Lib.hid (by unfold belowI; rw [if_neg hq0])
      have HKE : Hid (drawS q s' = drawS q s) := HD
      cases hacc : accB q (nextS s') with
      | true =>
        rw [hacc] at hacd
        have HE := Lib.hid (draw_yes q s' hs'.out hacc)
        have HDX : Hid (drawX q s = mixI (nextS s') % q) := Lib.hid (by unfold drawX; rw [HD.out.symm.trans HE.out, HV.out])
        clear hacc hq0
        generalize mixI (nextS s') = x at *
        obtain ⟨x0, x1⟩ := hbx
        obtain ⟨m0, m1⟩ := hmod
        go_wp2
        go_ret
        have e1 : drawS q s = nextS s' := HD.out.symm.trans HE.out
        refine ⟨?_, ?_, ?_⟩
        · rw [HDX.out]
          show Ending.returned (Value.int .u64 (x - (x - x % q))) = _
          rw [show x - (x - x % q) = x % q by omega]
        · rw [e1]
          exact HX2.out.1
        · exact grownBy_drewN HX2.out.2 _
      | false =>
        rw [hacc] at hacd
        obtain ⟨e1, e2⟩ := draw_no q s' HQ.out hs'.out hacc
        have HE := Lib.hid e1
        have HK := Lib.hid e2
        clear hacc e1 e2 hq0
        generalize mixI (nextS s') = x at *
        obtain ⟨x0, x1⟩ := hbx
        obtain ⟨m0, m1⟩ := hmod
        go_wp2
        go_roundg (kk (nextS s'))
        case measure => rw [← hkk.out, HK.out]; omega
        case rel => exact ⟨nextS s', rfl, Lib.hid (nextS_U64 _), Lib.hid (HE.out.symm.trans HD.out), Lib.hid ⟨HX2.out.1, grownBy_drewN HX2.out.2 _⟩⟩
end Go.Proofs.Ytcabcblopfpbfaa
