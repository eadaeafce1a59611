/- tape.New, Of, Next, At, Draws, Copy, walked. -/
import Derived.Test.YtcabcblopfpbfaaTapeA
import Derived.Test.YtcabcblopfpbfaaMem
import Derived.Deep.DeepCutAuto
import Derived.Deep.LoopGhost
namespace Go.Proofs.Ytcabcblopfpbfaa
open Go.RowKit

def nums (l : List Int) : List Value := l.map (Value.int .u64)
/-- What a tape holds: the numbers told ahead, the state, how many draws were made. -/
structure TS where
  ahead : List Int
  s : Int
  d : Int
def TS.ok (T : TS) : Prop := (∀ x ∈ T.ahead, U64 x) ∧ U64 T.s ∧ 0 ≤ T.d ∧ T.d < 4611686018427387904
def TS.next (q : Int) (T : TS) : TS := match T.ahead with
  | _ :: r => ⟨r, T.s, T.d + 1⟩
  | [] => ⟨[], drawS q T.s, T.d + 1⟩
def TS.val (q : Int) (T : TS) : Int := match T.ahead with
  | x :: _ => belowI x q
  | [] => drawX q T.s
/-- The tape that lies in block b; what is told ahead, if anything is left, lies in block ga. -/
def TapeIs (w : World) (b ga : Nat) (T : TS) : Prop :=
  ∃ A c, Bk w b 50 #[.int .u64 T.s, .slice A T.ahead.length c, .int .i64 T.d] ∧ T.ahead.length ≤ c ∧ c ≤ 9223372036854775807 ∧
    (T.ahead ≠ [] → ga ≠ b ∧ ga < w.heap.size ∧ ∃ o, A = some ⟨ga, o, none⟩ ∧ ∀ j u, (nums T.ahead)[j]? = some u → w.cell? ⟨ga, o + j, none⟩ = some u)

set_option maxHeartbeats 400000 in
theorem next_own (b : Nat) (A : Option Addr) (c : Nat) (s d q : Int) (w : World) (hs : U64 s) (hq : U64 q) (hd0 : 0 ≤ d) (hd : d < 4611686018427387904)
    (hb : Bk w b 50 #[.int .u64 s, .slice A 0 c, .int .i64 d]) :
    Calls Try.prog 12 #[.pointer (some ⟨b, 0, none⟩), .int .u64 q] w fun e w' => e = .returned (.int .u64 (drawX q s)) ∧ Bk w' b 50 #[.int .u64 (drawS q s), .slice A 0 c, .int .i64 (d + 1)] ∧ w.grownBy w' (some b) := by
  have c0 : w.cell? ⟨b, 0, none⟩ = some (.int .u64 s) := hb.cell 0
  have c1 : w.cell? ⟨b, 1, none⟩ = some (.slice A 0 c) := hb.cell 1
  have c2 : w.cell? ⟨b, 2, none⟩ = some (.int .i64 d) := hb.cell 2
  have f0 : w.frozen? ⟨b, 0, none⟩ = false := hb.free 0
  have f2 : w.frozen? ⟨b, 2, none⟩ = false := hb.free 2
  have HB := Lib.hid hb
  have HS := Lib.hid hs
  have HQ := Lib.hid hq
  clear hb hs hq
  go_enter Try.func12, Try.ntmps12
  go_wp2_with fail
  have hb1 : Bk (w.setCell ⟨b, 2, none⟩ (.int .i64 (d + 1))) b 50 #[.int .u64 s, .slice A 0 c, .int .i64 (d + 1)] := (HB.out.set 2 _).of_eq rfl
  have hg1 : w.grownBy (w.setCell ⟨b, 2, none⟩ (.int .i64 (d + 1))) (some b) := grownBy_set (World.grownBy.refl w _) 2 _
  clear c0 c1 c2 f0 f2
  generalize w.setCell ⟨b, 2, none⟩ (.int .i64 (d + 1)) = w1 at *
  go_loopg [6] (kk s) (fun g s6 wx => ∃ s' : Int, kk s' = g ∧ Hid (U64 s') ∧ Hid (drawS q s' = drawS q s) ∧ Hid (Bk wx b 50 #[.int .u64 s', .slice A 0 c, .int .i64 (d + 1)] ∧ w.grownBy wx (some b)))
  case atStart => exact ⟨s, rfl, HS, Lib.hid rfl, Lib.hid ⟨hb1, hg1⟩⟩
  case round =>
    clear hb1 hg1
    obtain ⟨s', hk, hs', HD, HX⟩ := hrel
    have d0 : wr.cell? ⟨b, 0, none⟩ = some (.int .u64 s') := HX.out.1.cell 0
    have g0 : wr.frozen? ⟨b, 0, none⟩ = false := HX.out.1.free 0
    have HN := Lib.hid (number_any b s' wr hs'.out d0 g0)
    have HL := Lib.hid (fun w => below_any (mixI (nextS s')) q w (mixI_U64 _) HQ.out)
    have HO := Lib.hid (fun w => over_any q w HQ.out)
    have HX2 : Hid (Bk (wr.setCell ⟨b, 0, none⟩ (.int .u64 (nextS s'))) b 50 #[.int .u64 (nextS s'), .slice A 0 c, .int .i64 (d + 1)] ∧ w.grownBy (wr.setCell ⟨b, 0, none⟩ (.int .u64 (nextS s'))) (some b)) := Lib.hid ⟨(HX.out.1.set 0 _).of_eq rfl, grownBy_set HX.out.2 0 _⟩
    have hkk := Lib.hid hk
    clear d0 g0 hk
    go_wp2_with fail
    refine HN.out.mono ?_
    rintro e w' ⟨rfl, n1, rfl⟩
    go_wp2_with fail
    refine (HO.out _).mono ?_
    rintro e w' ⟨rfl, n2, rfl⟩
    cases hacc : accB q (nextS s') with
    | true =>
      have hA : decide (overI q ≤ bits BinOp.xor IntKind.u64 IntKind.u64.max (mixI (nextS s'))) = true := hacc
      have HE := Lib.hid (draw_yes q s' hs'.out hacc)
      clear hacc
      go_wp2_with fail
      refine (HL.out _).mono ?_
      rintro e w' ⟨rfl, n3, rfl⟩
      go_wp2
      go_ret
      have e1 : drawS q s = nextS s' := HD.out.symm.trans HE.out
      refine ⟨?_, ?_, ?_⟩
      · unfold drawX
        rw [e1]
        rfl
      · rw [e1]
        exact HX2.out.1
      · exact grownBy_drewN HX2.out.2 _
    | false =>
      have hA : decide (overI q ≤ bits BinOp.xor IntKind.u64 IntKind.u64.max (mixI (nextS s'))) = false := hacc
      obtain ⟨e1, e2⟩ := draw_no q s' HQ.out hs'.out hacc
      have HE := Lib.hid e1
      have HK := Lib.hid e2
      clear hacc e1 e2
      go_wp2
      go_roundg (kk (nextS s'))
      case measure => rw [← hkk.out, HK.out]; omega
      case rel => exact ⟨nextS s', rfl, Lib.hid (nextS_U64 _), Lib.hid (HE.out.symm.trans HD.out), Lib.hid ⟨HX2.out.1, grownBy_drewN HX2.out.2 _⟩⟩
end Go.Proofs.Ytcabcblopfpbfaa
