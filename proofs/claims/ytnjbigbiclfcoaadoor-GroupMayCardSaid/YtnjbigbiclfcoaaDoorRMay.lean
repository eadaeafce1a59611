/- The document's May (consistoryref02), walked; it tells what group.May does: consistorylaw02.GroupMay. -/
import Derived.Test.YtnjbigbiclfcoaaDoorPlain
import Derived.Test.YtnjbigbiclfcoaaDoorPrimL
namespace Go.Proofs.YtnjbigbiclfcoaaDoor
open Go.RowKit

def refMayB (p : Par) : Bool := plainB p && refPrimeB p.P && refPrimeB p.Q
set_option maxHeartbeats 1000000 in
theorem rmay_any (p : Par) (w : World) (hp : p.ok) : Calls Tryd.prog 11 #[p.v] w fun e w' => e = .returned (.bool (refMayB p)) ∧ w.grownBy w' none := by
  have HB0 : Hid (Bk (w.alloc (.cells p.cells 24)) w.heap.size 24 p.cells) := Lib.hid (Bk.new w _ _)
  have HG0 : Hid (w.grownBy (w.alloc (.cells p.cells 24)) none) := Lib.hid (World.grownBy_alloc w _ none)
  have hp0 := HB0.out.prule
  have HP := Lib.hid (fun (w' : World) => plain_any p w' hp)
  have HX := Lib.hid (fun (w' : World) => refprime_any p.P w')
  have HY := Lib.hid (fun (w' : World) => refprime_any p.Q w')
  obtain ⟨res, hres⟩ : ∃ r, r = refMayB p := ⟨_, rfl⟩
  rw [← hres]
  have HE : Hid (res = (plainB p && refPrimeB p.P && refPrimeB p.Q)) := Lib.hid hres
  clear hp hres
  generalize plainB p = b1 at HP HE
  generalize refPrimeB p.P = b2 at HX HE
  generalize refPrimeB p.Q = b3 at HY HE
  cases b1 with
  | false =>
    have HF : Hid (false = res) := Lib.hid (by rw [HE.out]; rfl)
    go_enter Tryd.func11, Tryd.ntmps11
    go_wp2_with fail
    refine (HP.out _).mono ?_
    rintro e w1 ⟨rfl, hg⟩
    have HG1 := hidTrans hg HG0
    clear hg
    go_wp2_with fail
    go_ret
    exact ⟨ret_bool HF.out, HG1.out⟩
  | true =>
    cases b2 with
    | false =>
      have HF : Hid (false = res) := Lib.hid (by rw [HE.out]; rfl)
      go_enter Tryd.func11, Tryd.ntmps11
      go_wp2_with fail
      refine (HP.out _).mono ?_
      rintro e w1 ⟨rfl, hg⟩
      have HG1 := hidTrans hg HG0
      have HB1 := bkGrown hg HB0
      have hp1 := HB1.out.prule
      clear hg hp0
      go_wp2_with fail
      refine (HX.out _).mono ?_
      rintro e w2 ⟨rfl, hg⟩
      have HG2 := hidTrans hg HG1
      clear hg
      go_wp2_with fail
      go_ret
      exact ⟨ret_bool HF.out, HG2.out⟩
    | true =>
      have HF : Hid (b3 = res) := Lib.hid (by rw [HE.out]; rfl)
      go_enter Tryd.func11, Tryd.ntmps11
      go_wp2_with fail
      refine (HP.out _).mono ?_
      rintro e w1 ⟨rfl, hg⟩
      have HG1 := hidTrans hg HG0
      have HB1 := bkGrown hg HB0
      have hp1 := HB1.out.prule
      clear hg hp0
      go_wp2_with fail
      refine (HX.out _).mono ?_
      rintro e w2 ⟨rfl, hg⟩
      have HG2 := hidTrans hg HG1
      have HB2 := bkGrown hg HB1
      have hp2 := HB2.out.prule
      clear hg hp1
      go_wp2_with fail
      refine (HY.out _).mono ?_
      rintro e w3 ⟨rfl, hg⟩
      have HG3 := hidTrans hg HG2
      clear hg
      go_wp2_with fail
      go_ret
      exact ⟨ret_bool HF.out, HG3.out⟩
theorem may_same (p : Par) : mayP p = refMayB p := by
  unfold refMayB
  rw [← prime_same, ← prime_same, Bool.eq_iff_iff]
  simp only [mayP, plainB, tests, m1, m2, m3, m4, m5, m6, m7, m9, m10, withinB, List.any_cons, List.any_nil, Bool.or_false, id_eq, Bool.and_eq_true, Bool.not_eq_true', Bool.or_eq_false_iff, decide_eq_true_eq, decide_eq_false_iff_not, beq_iff_eq, bne_eq_false_iff_eq, beq_eq_false_iff_ne, Bool.not_eq_false']
  constructor
  · rintro ⟨⟨⟨⟨⟨⟨⟨⟨⟨⟨⟨⟨a1, a2⟩, a3⟩, a4⟩, b1, b2⟩, ⟨c1, c2⟩, c3⟩, d1, d2⟩, ⟨e1, e2⟩, e3, e4⟩, f1, f2⟩, ⟨g1, g2⟩, g3, g4⟩, h1⟩, i1, i2⟩, ⟨⟨j1, j2⟩, j3⟩, j4⟩
    refine ⟨⟨⟨⟨by omega, by omega, by omega, a4, j1, j3, j2, j4, by omega, by omega, by omega, by omega, by omega, by omega, by omega, by omega, by omega, by omega, by omega, by omega, by omega, by omega, by omega, by omega, by omega⟩, h1⟩, i2⟩, i1⟩
  · rintro ⟨⟨⟨⟨a1, a2, a3, a4, j1, j3, j2, j4, b1, b2, c1, c2, c3, d1, d2, e1, e2, e3, e4, f1, f2, g1, g2, g3, g4⟩, h1⟩, i2⟩, i1⟩
    refine ⟨⟨⟨⟨⟨⟨⟨⟨⟨⟨⟨⟨by omega, by omega⟩, by omega⟩, a4⟩, by omega, by omega⟩, ⟨by omega, by omega⟩, by omega⟩, by omega, by omega⟩, ⟨by omega, by omega⟩, by omega, by omega⟩, by omega, by omega⟩, ⟨by omega, by omega⟩, by omega, by omega⟩, h1⟩, i1, i2⟩, ⟨⟨j1, j2⟩, j3⟩, j4⟩
end Go.Proofs.YtnjbigbiclfcoaaDoor
