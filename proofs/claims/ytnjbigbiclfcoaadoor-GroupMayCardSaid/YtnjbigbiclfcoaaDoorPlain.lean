/- The document's Plain and May (consistoryref02), walked, test by test (printed by mk_plain.py). -/
import Derived.Test.YtnjbigbiclfcoaaDoorRGrp
import Derived.Test.YtnjbigbiclfcoaaDoorMayB
import Derived.Test.YtnjbigbiclfcoaaDoorPrimR
namespace Go.Proofs.YtnjbigbiclfcoaaDoor
open Go.RowKit

/-- What is asked, one by one: true where it is refused. -/
def tests (p : Par) : List Bool := [decide (p.P < 2), decide (2305843009213693952 < p.P), decide (p.Q < 2), ((p.P - 1) % p.Q != 0), (p.G == 1), (p.H == 1), !(isB p p.G), !(isB p p.H), decide (p.T < 1), decide (2 < p.T), decide (p.N < 3 * p.T + 1), decide (7 < p.N), decide (p.Q ≤ p.N), decide (p.Nodes < p.N), decide (8 < p.Nodes), decide (p.K < 1), decide (2 < p.K), decide (p.D < 1), decide (4 < p.D), decide (p.R < 1), decide (p.D < p.R), decide (p.M < 1), decide (1048576 < p.M), decide (p.X < 1), decide (1048576 < p.X)]
def plainB (p : Par) : Bool := !((tests p).any id) && m8 p
set_option maxRecDepth 100000 in
set_option maxHeartbeats 1000000 in
theorem plain_0 (p : Par) (w : World) (hp : p.ok)  (h0 : (decide (p.P < 2)) = true) :
    Calls Tryd.prog 37 #[p.v] w fun e w' => e = .returned (.bool false) ∧ w.grownBy w' none := by
  have HB0 : Hid (Bk (w.alloc (.cells p.cells 24)) w.heap.size 24 p.cells) := Lib.hid (Bk.new w _ _)
  have HG0 : Hid (w.grownBy (w.alloc (.cells p.cells 24)) none) := Lib.hid (World.grownBy_alloc w _ none)
  have hp0 := HB0.out.prule
  obtain ⟨q0, q1⟩ := hp.Q
  obtain ⟨p0, p1⟩ := hp.P
  clear hp
  go_enter Tryd.func37, Tryd.ntmps37
  go_wp2_with fail
  go_ret
  exact ⟨rfl, HG0.out⟩
set_option maxRecDepth 100000 in
set_option maxHeartbeats 1000000 in
theorem plain_1 (p : Par) (w : World) (hp : p.ok) (h0 : (decide (p.P < 2)) = false) (h1 : (decide (2305843009213693952 < p.P)) = true) :
    Calls Tryd.prog 37 #[p.v] w fun e w' => e = .returned (.bool false) ∧ w.grownBy w' none := by
  have HB0 : Hid (Bk (w.alloc (.cells p.cells 24)) w.heap.size 24 p.cells) := Lib.hid (Bk.new w _ _)
  have HG0 : Hid (w.grownBy (w.alloc (.cells p.cells 24)) none) := Lib.hid (World.grownBy_alloc w _ none)
  have hp0 := HB0.out.prule
  obtain ⟨q0, q1⟩ := hp.Q
  obtain ⟨p0, p1⟩ := hp.P
  clear hp
  go_enter Tryd.func37, Tryd.ntmps37
  go_wp2_with fail
  go_ret
  exact ⟨rfl, HG0.out⟩
set_option maxRecDepth 100000 in
set_option maxHeartbeats 1000000 in
theorem plain_2 (p : Par) (w : World) (hp : p.ok) (h0 : (decide (p.P < 2)) = false) (h1 : (decide (2305843009213693952 < p.P)) = false) (h2 : (decide (p.Q < 2)) = true) :
    Calls Tryd.prog 37 #[p.v] w fun e w' => e = .returned (.bool false) ∧ w.grownBy w' none := by
  have HB0 : Hid (Bk (w.alloc (.cells p.cells 24)) w.heap.size 24 p.cells) := Lib.hid (Bk.new w _ _)
  have HG0 : Hid (w.grownBy (w.alloc (.cells p.cells 24)) none) := Lib.hid (World.grownBy_alloc w _ none)
  have hp0 := HB0.out.prule
  obtain ⟨q0, q1⟩ := hp.Q
  obtain ⟨p0, p1⟩ := hp.P
  clear hp
  go_enter Tryd.func37, Tryd.ntmps37
  go_wp2_with fail
  go_ret
  exact ⟨rfl, HG0.out⟩
set_option maxRecDepth 100000 in
set_option maxHeartbeats 1000000 in
theorem plain_3 (p : Par) (w : World) (hp : p.ok) (h0 : (decide (p.P < 2)) = false) (h1 : (decide (2305843009213693952 < p.P)) = false) (h2 : (decide (p.Q < 2)) = false) (h3 : (((p.P - 1) % p.Q != 0)) = true) :
    Calls Tryd.prog 37 #[p.v] w fun e w' => e = .returned (.bool false) ∧ w.grownBy w' none := by
  have HB0 : Hid (Bk (w.alloc (.cells p.cells 24)) w.heap.size 24 p.cells) := Lib.hid (Bk.new w _ _)
  have HG0 : Hid (w.grownBy (w.alloc (.cells p.cells 24)) none) := Lib.hid (World.grownBy_alloc w _ none)
  have hp0 := HB0.out.prule
  obtain ⟨q0, q1⟩ := hp.Q
  obtain ⟨p0, p1⟩ := hp.P
  have f2 : ¬ p.Q < 2 := by simpa using h2
  have f0 : ¬ p.P < 2 := by simpa using h0
  clear hp
  go_enter Tryd.func37, Tryd.ntmps37
  go_wp2_with fail
  go_ret
  exact ⟨rfl, HG0.out⟩
set_option maxRecDepth 100000 in
set_option maxHeartbeats 1000000 in
theorem plain_4 (p : Par) (w : World) (hp : p.ok) (h0 : (decide (p.P < 2)) = false) (h1 : (decide (2305843009213693952 < p.P)) = false) (h2 : (decide (p.Q < 2)) = false) (h3 : (((p.P - 1) % p.Q != 0)) = false) (h4 : ((p.G == 1)) = true) :
    Calls Tryd.prog 37 #[p.v] w fun e w' => e = .returned (.bool false) ∧ w.grownBy w' none := by
  have HB0 : Hid (Bk (w.alloc (.cells p.cells 24)) w.heap.size 24 p.cells) := Lib.hid (Bk.new w _ _)
  have HG0 : Hid (w.grownBy (w.alloc (.cells p.cells 24)) none) := Lib.hid (World.grownBy_alloc w _ none)
  have hp0 := HB0.out.prule
  obtain ⟨q0, q1⟩ := hp.Q
  obtain ⟨p0, p1⟩ := hp.P
  have f2 : ¬ p.Q < 2 := by simpa using h2
  have f0 : ¬ p.P < 2 := by simpa using h0
  clear hp
  go_enter Tryd.func37, Tryd.ntmps37
  go_wp2_with fail
  go_ret
  exact ⟨rfl, HG0.out⟩
set_option maxRecDepth 100000 in
set_option maxHeartbeats 1000000 in
theorem plain_5 (p : Par) (w : World) (hp : p.ok) (h0 : (decide (p.P < 2)) = false) (h1 : (decide (2305843009213693952 < p.P)) = false) (h2 : (decide (p.Q < 2)) = false) (h3 : (((p.P - 1) % p.Q != 0)) = false) (h4 : ((p.G == 1)) = false) (h5 : ((p.H == 1)) = true) :
    Calls Tryd.prog 37 #[p.v] w fun e w' => e = .returned (.bool false) ∧ w.grownBy w' none := by
  have HB0 : Hid (Bk (w.alloc (.cells p.cells 24)) w.heap.size 24 p.cells) := Lib.hid (Bk.new w _ _)
  have HG0 : Hid (w.grownBy (w.alloc (.cells p.cells 24)) none) := Lib.hid (World.grownBy_alloc w _ none)
  have hp0 := HB0.out.prule
  obtain ⟨q0, q1⟩ := hp.Q
  obtain ⟨p0, p1⟩ := hp.P
  have f2 : ¬ p.Q < 2 := by simpa using h2
  have f0 : ¬ p.P < 2 := by simpa using h0
  clear hp
  go_enter Tryd.func37, Tryd.ntmps37
  go_wp2_with fail
  go_ret
  exact ⟨rfl, HG0.out⟩
set_option maxRecDepth 100000 in
set_option maxHeartbeats 1000000 in
theorem plain_6 (p : Par) (w : World) (hp : p.ok) (h0 : (decide (p.P < 2)) = false) (h1 : (decide (2305843009213693952 < p.P)) = false) (h2 : (decide (p.Q < 2)) = false) (h3 : (((p.P - 1) % p.Q != 0)) = false) (h4 : ((p.G == 1)) = false) (h5 : ((p.H == 1)) = false) (h6 : (!(isB p p.G)) = true) :
    Calls Tryd.prog 37 #[p.v] w fun e w' => e = .returned (.bool false) ∧ w.grownBy w' none := by
  have HB0 : Hid (Bk (w.alloc (.cells p.cells 24)) w.heap.size 24 p.cells) := Lib.hid (Bk.new w _ _)
  have HG0 : Hid (w.grownBy (w.alloc (.cells p.cells 24)) none) := Lib.hid (World.grownBy_alloc w _ none)
  have hp0 := HB0.out.prule
  obtain ⟨q0, q1⟩ := hp.Q
  obtain ⟨p0, p1⟩ := hp.P
  have HI1 := Lib.hid (fun w' => ris_any p p.G w' hp hp.G)
  have e6 : isB p p.G = false := by simpa using h6
  rw [e6] at HI1
  clear h6 e6
  have f2 : ¬ p.Q < 2 := by simpa using h2
  have f0 : ¬ p.P < 2 := by simpa using h0
  clear hp
  go_enter Tryd.func37, Tryd.ntmps37
  go_wp2_with fail
  refine (HI1.out _).mono ?_
  rintro e w1 ⟨rfl, hg⟩
  have HG1 := hidTrans hg HG0
  have HB1 := bkGrown hg HB0
  have hp1 := HB1.out.prule
  clear hg hp0
  go_wp2_with fail
  go_ret
  exact ⟨rfl, HG1.out⟩
set_option maxRecDepth 100000 in
set_option maxHeartbeats 1000000 in
theorem plain_7 (p : Par) (w : World) (hp : p.ok) (h0 : (decide (p.P < 2)) = false) (h1 : (decide (2305843009213693952 < p.P)) = false) (h2 : (decide (p.Q < 2)) = false) (h3 : (((p.P - 1) % p.Q != 0)) = false) (h4 : ((p.G == 1)) = false) (h5 : ((p.H == 1)) = false) (h6 : (!(isB p p.G)) = false) (h7 : (!(isB p p.H)) = true) :
    Calls Tryd.prog 37 #[p.v] w fun e w' => e = .returned (.bool false) ∧ w.grownBy w' none := by
  have HB0 : Hid (Bk (w.alloc (.cells p.cells 24)) w.heap.size 24 p.cells) := Lib.hid (Bk.new w _ _)
  have HG0 : Hid (w.grownBy (w.alloc (.cells p.cells 24)) none) := Lib.hid (World.grownBy_alloc w _ none)
  have hp0 := HB0.out.prule
  obtain ⟨q0, q1⟩ := hp.Q
  obtain ⟨p0, p1⟩ := hp.P
  have HI1 := Lib.hid (fun w' => ris_any p p.G w' hp hp.G)
  have HI2 := Lib.hid (fun w' => ris_any p p.H w' hp hp.H)
  have e6 : isB p p.G = true := by simpa using h6
  rw [e6] at HI1
  clear h6 e6
  have e7 : isB p p.H = false := by simpa using h7
  rw [e7] at HI2
  clear h7 e7
  have f2 : ¬ p.Q < 2 := by simpa using h2
  have f0 : ¬ p.P < 2 := by simpa using h0
  clear hp
  go_enter Tryd.func37, Tryd.ntmps37
  go_wp2_with fail
  refine (HI1.out _).mono ?_
  rintro e w1 ⟨rfl, hg⟩
  have HG1 := hidTrans hg HG0
  have HB1 := bkGrown hg HB0
  have hp1 := HB1.out.prule
  clear hg hp0
  go_wp2_with fail
  refine (HI2.out _).mono ?_
  rintro e w2 ⟨rfl, hg⟩
  have HG2 := hidTrans hg HG1
  have HB2 := bkGrown hg HB1
  have hp2 := HB2.out.prule
  clear hg hp1
  go_wp2_with fail
  go_ret
  exact ⟨rfl, HG2.out⟩
set_option maxRecDepth 100000 in
set_option maxHeartbeats 1000000 in
theorem plain_8 (p : Par) (w : World) (hp : p.ok) (h0 : (decide (p.P < 2)) = false) (h1 : (decide (2305843009213693952 < p.P)) = false) (h2 : (decide (p.Q < 2)) = false) (h3 : (((p.P - 1) % p.Q != 0)) = false) (h4 : ((p.G == 1)) = false) (h5 : ((p.H == 1)) = false) (h6 : (!(isB p p.G)) = false) (h7 : (!(isB p p.H)) = false) (h8 : (decide (p.T < 1)) = true) :
    Calls Tryd.prog 37 #[p.v] w fun e w' => e = .returned (.bool false) ∧ w.grownBy w' none := by
  have HB0 : Hid (Bk (w.alloc (.cells p.cells 24)) w.heap.size 24 p.cells) := Lib.hid (Bk.new w _ _)
  have HG0 : Hid (w.grownBy (w.alloc (.cells p.cells 24)) none) := Lib.hid (World.grownBy_alloc w _ none)
  have hp0 := HB0.out.prule
  obtain ⟨q0, q1⟩ := hp.Q
  obtain ⟨p0, p1⟩ := hp.P
  have HI1 := Lib.hid (fun w' => ris_any p p.G w' hp hp.G)
  have HI2 := Lib.hid (fun w' => ris_any p p.H w' hp hp.H)
  have e6 : isB p p.G = true := by simpa using h6
  rw [e6] at HI1
  clear h6 e6
  have e7 : isB p p.H = true := by simpa using h7
  rw [e7] at HI2
  clear h7 e7
  have f2 : ¬ p.Q < 2 := by simpa using h2
  have f0 : ¬ p.P < 2 := by simpa using h0
  clear hp
  go_enter Tryd.func37, Tryd.ntmps37
  go_wp2_with fail
  refine (HI1.out _).mono ?_
  rintro e w1 ⟨rfl, hg⟩
  have HG1 := hidTrans hg HG0
  have HB1 := bkGrown hg HB0
  have hp1 := HB1.out.prule
  clear hg hp0
  go_wp2_with fail
  refine (HI2.out _).mono ?_
  rintro e w2 ⟨rfl, hg⟩
  have HG2 := hidTrans hg HG1
  have HB2 := bkGrown hg HB1
  have hp2 := HB2.out.prule
  clear hg hp1
  go_wp2_with fail
  go_ret
  exact ⟨rfl, HG2.out⟩
set_option maxRecDepth 100000 in
set_option maxHeartbeats 1000000 in
theorem plain_9 (p : Par) (w : World) (hp : p.ok) (h0 : (decide (p.P < 2)) = false) (h1 : (decide (2305843009213693952 < p.P)) = false) (h2 : (decide (p.Q < 2)) = false) (h3 : (((p.P - 1) % p.Q != 0)) = false) (h4 : ((p.G == 1)) = false) (h5 : ((p.H == 1)) = false) (h6 : (!(isB p p.G)) = false) (h7 : (!(isB p p.H)) = false) (h8 : (decide (p.T < 1)) = false) (h9 : (decide (2 < p.T)) = true) :
    Calls Tryd.prog 37 #[p.v] w fun e w' => e = .returned (.bool false) ∧ w.grownBy w' none := by
  have HB0 : Hid (Bk (w.alloc (.cells p.cells 24)) w.heap.size 24 p.cells) := Lib.hid (Bk.new w _ _)
  have HG0 : Hid (w.grownBy (w.alloc (.cells p.cells 24)) none) := Lib.hid (World.grownBy_alloc w _ none)
  have hp0 := HB0.out.prule
  obtain ⟨q0, q1⟩ := hp.Q
  obtain ⟨p0, p1⟩ := hp.P
  have HI1 := Lib.hid (fun w' => ris_any p p.G w' hp hp.G)
  have HI2 := Lib.hid (fun w' => ris_any p p.H w' hp hp.H)
  have e6 : isB p p.G = true := by simpa using h6
  rw [e6] at HI1
  clear h6 e6
  have e7 : isB p p.H = true := by simpa using h7
  rw [e7] at HI2
  clear h7 e7
  have f2 : ¬ p.Q < 2 := by simpa using h2
  have f0 : ¬ p.P < 2 := by simpa using h0
  clear hp
  go_enter Tryd.func37, Tryd.ntmps37
  go_wp2_with fail
  refine (HI1.out _).mono ?_
  rintro e w1 ⟨rfl, hg⟩
  have HG1 := hidTrans hg HG0
  have HB1 := bkGrown hg HB0
  have hp1 := HB1.out.prule
  clear hg hp0
  go_wp2_with fail
  refine (HI2.out _).mono ?_
  rintro e w2 ⟨rfl, hg⟩
  have HG2 := hidTrans hg HG1
  have HB2 := bkGrown hg HB1
  have hp2 := HB2.out.prule
  clear hg hp1
  go_wp2_with fail
  go_ret
  exact ⟨rfl, HG2.out⟩
set_option maxRecDepth 100000 in
set_option maxHeartbeats 1000000 in
theorem plain_10 (p : Par) (w : World) (hp : p.ok) (h0 : (decide (p.P < 2)) = false) (h1 : (decide (2305843009213693952 < p.P)) = false) (h2 : (decide (p.Q < 2)) = false) (h3 : (((p.P - 1) % p.Q != 0)) = false) (h4 : ((p.G == 1)) = false) (h5 : ((p.H == 1)) = false) (h6 : (!(isB p p.G)) = false) (h7 : (!(isB p p.H)) = false) (h8 : (decide (p.T < 1)) = false) (h9 : (decide (2 < p.T)) = false) (h10 : (decide (p.N < 3 * p.T + 1)) = true) :
    Calls Tryd.prog 37 #[p.v] w fun e w' => e = .returned (.bool false) ∧ w.grownBy w' none := by
  have HB0 : Hid (Bk (w.alloc (.cells p.cells 24)) w.heap.size 24 p.cells) := Lib.hid (Bk.new w _ _)
  have HG0 : Hid (w.grownBy (w.alloc (.cells p.cells 24)) none) := Lib.hid (World.grownBy_alloc w _ none)
  have hp0 := HB0.out.prule
  obtain ⟨q0, q1⟩ := hp.Q
  obtain ⟨p0, p1⟩ := hp.P
  have HI1 := Lib.hid (fun w' => ris_any p p.G w' hp hp.G)
  have HI2 := Lib.hid (fun w' => ris_any p p.H w' hp hp.H)
  have e6 : isB p p.G = true := by simpa using h6
  rw [e6] at HI1
  clear h6 e6
  have e7 : isB p p.H = true := by simpa using h7
  rw [e7] at HI2
  clear h7 e7
  have f2 : ¬ p.Q < 2 := by simpa using h2
  have f0 : ¬ p.P < 2 := by simpa using h0
  have f8 : ¬ p.T < 1 := by simpa using h8
  have f9 : ¬ 2 < p.T := by simpa using h9
  clear hp
  go_enter Tryd.func37, Tryd.ntmps37
  go_wp2_with fail
  refine (HI1.out _).mono ?_
  rintro e w1 ⟨rfl, hg⟩
  have HG1 := hidTrans hg HG0
  have HB1 := bkGrown hg HB0
  have hp1 := HB1.out.prule
  clear hg hp0
  go_wp2_with fail
  refine (HI2.out _).mono ?_
  rintro e w2 ⟨rfl, hg⟩
  have HG2 := hidTrans hg HG1
  have HB2 := bkGrown hg HB1
  have hp2 := HB2.out.prule
  clear hg hp1
  go_wp2_with fail
  go_ret
  exact ⟨rfl, HG2.out⟩
set_option maxRecDepth 100000 in
set_option maxHeartbeats 1000000 in
theorem plain_11 (p : Par) (w : World) (hp : p.ok) (h0 : (decide (p.P < 2)) = false) (h1 : (decide (2305843009213693952 < p.P)) = false) (h2 : (decide (p.Q < 2)) = false) (h3 : (((p.P - 1) % p.Q != 0)) = false) (h4 : ((p.G == 1)) = false) (h5 : ((p.H == 1)) = false) (h6 : (!(isB p p.G)) = false) (h7 : (!(isB p p.H)) = false) (h8 : (decide (p.T < 1)) = false) (h9 : (decide (2 < p.T)) = false) (h10 : (decide (p.N < 3 * p.T + 1)) = false) (h11 : (decide (7 < p.N)) = true) :
    Calls Tryd.prog 37 #[p.v] w fun e w' => e = .returned (.bool false) ∧ w.grownBy w' none := by
  have HB0 : Hid (Bk (w.alloc (.cells p.cells 24)) w.heap.size 24 p.cells) := Lib.hid (Bk.new w _ _)
  have HG0 : Hid (w.grownBy (w.alloc (.cells p.cells 24)) none) := Lib.hid (World.grownBy_alloc w _ none)
  have hp0 := HB0.out.prule
  obtain ⟨q0, q1⟩ := hp.Q
  obtain ⟨p0, p1⟩ := hp.P
  have HI1 := Lib.hid (fun w' => ris_any p p.G w' hp hp.G)
  have HI2 := Lib.hid (fun w' => ris_any p p.H w' hp hp.H)
  have e6 : isB p p.G = true := by simpa using h6
  rw [e6] at HI1
  clear h6 e6
  have e7 : isB p p.H = true := by simpa using h7
  rw [e7] at HI2
  clear h7 e7
  have f2 : ¬ p.Q < 2 := by simpa using h2
  have f0 : ¬ p.P < 2 := by simpa using h0
  have f8 : ¬ p.T < 1 := by simpa using h8
  have f9 : ¬ 2 < p.T := by simpa using h9
  clear hp
  go_enter Tryd.func37, Tryd.ntmps37
  go_wp2_with fail
  refine (HI1.out _).mono ?_
  rintro e w1 ⟨rfl, hg⟩
  have HG1 := hidTrans hg HG0
  have HB1 := bkGrown hg HB0
  have hp1 := HB1.out.prule
  clear hg hp0
  go_wp2_with fail
  refine (HI2.out _).mono ?_
  rintro e w2 ⟨rfl, hg⟩
  have HG2 := hidTrans hg HG1
  have HB2 := bkGrown hg HB1
  have hp2 := HB2.out.prule
  clear hg hp1
  go_wp2_with fail
  go_ret
  exact ⟨rfl, HG2.out⟩
set_option maxRecDepth 100000 in
set_option maxHeartbeats 1000000 in
theorem plain_12 (p : Par) (w : World) (hp : p.ok) (h0 : (decide (p.P < 2)) = false) (h1 : (decide (2305843009213693952 < p.P)) = false) (h2 : (decide (p.Q < 2)) = false) (h3 : (((p.P - 1) % p.Q != 0)) = false) (h4 : ((p.G == 1)) = false) (h5 : ((p.H == 1)) = false) (h6 : (!(isB p p.G)) = false) (h7 : (!(isB p p.H)) = false) (h8 : (decide (p.T < 1)) = false) (h9 : (decide (2 < p.T)) = false) (h10 : (decide (p.N < 3 * p.T + 1)) = false) (h11 : (decide (7 < p.N)) = false) (h12 : (decide (p.Q ≤ p.N)) = true) :
    Calls Tryd.prog 37 #[p.v] w fun e w' => e = .returned (.bool false) ∧ w.grownBy w' none := by
  have HB0 : Hid (Bk (w.alloc (.cells p.cells 24)) w.heap.size 24 p.cells) := Lib.hid (Bk.new w _ _)
  have HG0 : Hid (w.grownBy (w.alloc (.cells p.cells 24)) none) := Lib.hid (World.grownBy_alloc w _ none)
  have hp0 := HB0.out.prule
  obtain ⟨q0, q1⟩ := hp.Q
  obtain ⟨p0, p1⟩ := hp.P
  have HI1 := Lib.hid (fun w' => ris_any p p.G w' hp hp.G)
  have HI2 := Lib.hid (fun w' => ris_any p p.H w' hp hp.H)
  have e6 : isB p p.G = true := by simpa using h6
  rw [e6] at HI1
  clear h6 e6
  have e7 : isB p p.H = true := by simpa using h7
  rw [e7] at HI2
  clear h7 e7
  have f2 : ¬ p.Q < 2 := by simpa using h2
  have f0 : ¬ p.P < 2 := by simpa using h0
  have f8 : ¬ p.T < 1 := by simpa using h8
  have f9 : ¬ 2 < p.T := by simpa using h9
  have f10 : ¬ p.N < 3 * p.T + 1 := by simpa using h10
  have f11 : ¬ 7 < p.N := by simpa using h11
  clear hp
  go_enter Tryd.func37, Tryd.ntmps37
  go_wp2_with fail
  refine (HI1.out _).mono ?_
  rintro e w1 ⟨rfl, hg⟩
  have HG1 := hidTrans hg HG0
  have HB1 := bkGrown hg HB0
  have hp1 := HB1.out.prule
  clear hg hp0
  go_wp2_with fail
  refine (HI2.out _).mono ?_
  rintro e w2 ⟨rfl, hg⟩
  have HG2 := hidTrans hg HG1
  have HB2 := bkGrown hg HB1
  have hp2 := HB2.out.prule
  clear hg hp1
  go_wp2_with fail
  go_ret
  exact ⟨rfl, HG2.out⟩
set_option maxRecDepth 100000 in
set_option maxHeartbeats 1000000 in
theorem plain_13 (p : Par) (w : World) (hp : p.ok) (h0 : (decide (p.P < 2)) = false) (h1 : (decide (2305843009213693952 < p.P)) = false) (h2 : (decide (p.Q < 2)) = false) (h3 : (((p.P - 1) % p.Q != 0)) = false) (h4 : ((p.G == 1)) = false) (h5 : ((p.H == 1)) = false) (h6 : (!(isB p p.G)) = false) (h7 : (!(isB p p.H)) = false) (h8 : (decide (p.T < 1)) = false) (h9 : (decide (2 < p.T)) = false) (h10 : (decide (p.N < 3 * p.T + 1)) = false) (h11 : (decide (7 < p.N)) = false) (h12 : (decide (p.Q ≤ p.N)) = false) (h13 : (decide (p.Nodes < p.N)) = true) :
    Calls Tryd.prog 37 #[p.v] w fun e w' => e = .returned (.bool false) ∧ w.grownBy w' none := by
  have HB0 : Hid (Bk (w.alloc (.cells p.cells 24)) w.heap.size 24 p.cells) := Lib.hid (Bk.new w _ _)
  have HG0 : Hid (w.grownBy (w.alloc (.cells p.cells 24)) none) := Lib.hid (World.grownBy_alloc w _ none)
  have hp0 := HB0.out.prule
  obtain ⟨q0, q1⟩ := hp.Q
  obtain ⟨p0, p1⟩ := hp.P
  have HI1 := Lib.hid (fun w' => ris_any p p.G w' hp hp.G)
  have HI2 := Lib.hid (fun w' => ris_any p p.H w' hp hp.H)
  have e6 : isB p p.G = true := by simpa using h6
  rw [e6] at HI1
  clear h6 e6
  have e7 : isB p p.H = true := by simpa using h7
  rw [e7] at HI2
  clear h7 e7
  have f2 : ¬ p.Q < 2 := by simpa using h2
  have f0 : ¬ p.P < 2 := by simpa using h0
  have f8 : ¬ p.T < 1 := by simpa using h8
  have f9 : ¬ 2 < p.T := by simpa using h9
  have f10 : ¬ p.N < 3 * p.T + 1 := by simpa using h10
  have f11 : ¬ 7 < p.N := by simpa using h11
  clear hp
  go_enter Tryd.func37, Tryd.ntmps37
  go_wp2_with fail
  refine (HI1.out _).mono ?_
  rintro e w1 ⟨rfl, hg⟩
  have HG1 := hidTrans hg HG0
  have HB1 := bkGrown hg HB0
  have hp1 := HB1.out.prule
  clear hg hp0
  go_wp2_with fail
  refine (HI2.out _).mono ?_
  rintro e w2 ⟨rfl, hg⟩
  have HG2 := hidTrans hg HG1
  have HB2 := bkGrown hg HB1
  have hp2 := HB2.out.prule
  clear hg hp1
  go_wp2_with fail
  go_ret
  exact ⟨rfl, HG2.out⟩
set_option maxRecDepth 100000 in
set_option maxHeartbeats 1000000 in
theorem plain_14 (p : Par) (w : World) (hp : p.ok) (h0 : (decide (p.P < 2)) = false) (h1 : (decide (2305843009213693952 < p.P)) = false) (h2 : (decide (p.Q < 2)) = false) (h3 : (((p.P - 1) % p.Q != 0)) = false) (h4 : ((p.G == 1)) = false) (h5 : ((p.H == 1)) = false) (h6 : (!(isB p p.G)) = false) (h7 : (!(isB p p.H)) = false) (h8 : (decide (p.T < 1)) = false) (h9 : (decide (2 < p.T)) = false) (h10 : (decide (p.N < 3 * p.T + 1)) = false) (h11 : (decide (7 < p.N)) = false) (h12 : (decide (p.Q ≤ p.N)) = false) (h13 : (decide (p.Nodes < p.N)) = false) (h14 : (decide (8 < p.Nodes)) = true) :
    Calls Tryd.prog 37 #[p.v] w fun e w' => e = .returned (.bool false) ∧ w.grownBy w' none := by
  have HB0 : Hid (Bk (w.alloc (.cells p.cells 24)) w.heap.size 24 p.cells) := Lib.hid (Bk.new w _ _)
  have HG0 : Hid (w.grownBy (w.alloc (.cells p.cells 24)) none) := Lib.hid (World.grownBy_alloc w _ none)
  have hp0 := HB0.out.prule
  obtain ⟨q0, q1⟩ := hp.Q
  obtain ⟨p0, p1⟩ := hp.P
  have HI1 := Lib.hid (fun w' => ris_any p p.G w' hp hp.G)
  have HI2 := Lib.hid (fun w' => ris_any p p.H w' hp hp.H)
  have e6 : isB p p.G = true := by simpa using h6
  rw [e6] at HI1
  clear h6 e6
  have e7 : isB p p.H = true := by simpa using h7
  rw [e7] at HI2
  clear h7 e7
  have f2 : ¬ p.Q < 2 := by simpa using h2
  have f0 : ¬ p.P < 2 := by simpa using h0
  have f8 : ¬ p.T < 1 := by simpa using h8
  have f9 : ¬ 2 < p.T := by simpa using h9
  have f10 : ¬ p.N < 3 * p.T + 1 := by simpa using h10
  have f11 : ¬ 7 < p.N := by simpa using h11
  clear hp
  go_enter Tryd.func37, Tryd.ntmps37
  go_wp2_with fail
  refine (HI1.out _).mono ?_
  rintro e w1 ⟨rfl, hg⟩
  have HG1 := hidTrans hg HG0
  have HB1 := bkGrown hg HB0
  have hp1 := HB1.out.prule
  clear hg hp0
  go_wp2_with fail
  refine (HI2.out _).mono ?_
  rintro e w2 ⟨rfl, hg⟩
  have HG2 := hidTrans hg HG1
  have HB2 := bkGrown hg HB1
  have hp2 := HB2.out.prule
  clear hg hp1
  go_wp2_with fail
  go_ret
  exact ⟨rfl, HG2.out⟩
set_option maxRecDepth 100000 in
set_option maxHeartbeats 1000000 in
theorem plain_15 (p : Par) (w : World) (hp : p.ok) (h0 : (decide (p.P < 2)) = false) (h1 : (decide (2305843009213693952 < p.P)) = false) (h2 : (decide (p.Q < 2)) = false) (h3 : (((p.P - 1) % p.Q != 0)) = false) (h4 : ((p.G == 1)) = false) (h5 : ((p.H == 1)) = false) (h6 : (!(isB p p.G)) = false) (h7 : (!(isB p p.H)) = false) (h8 : (decide (p.T < 1)) = false) (h9 : (decide (2 < p.T)) = false) (h10 : (decide (p.N < 3 * p.T + 1)) = false) (h11 : (decide (7 < p.N)) = false) (h12 : (decide (p.Q ≤ p.N)) = false) (h13 : (decide (p.Nodes < p.N)) = false) (h14 : (decide (8 < p.Nodes)) = false) (h15 : (decide (p.K < 1)) = true) :
    Calls Tryd.prog 37 #[p.v] w fun e w' => e = .returned (.bool false) ∧ w.grownBy w' none := by
  have HB0 : Hid (Bk (w.alloc (.cells p.cells 24)) w.heap.size 24 p.cells) := Lib.hid (Bk.new w _ _)
  have HG0 : Hid (w.grownBy (w.alloc (.cells p.cells 24)) none) := Lib.hid (World.grownBy_alloc w _ none)
  have hp0 := HB0.out.prule
  obtain ⟨q0, q1⟩ := hp.Q
  obtain ⟨p0, p1⟩ := hp.P
  have HI1 := Lib.hid (fun w' => ris_any p p.G w' hp hp.G)
  have HI2 := Lib.hid (fun w' => ris_any p p.H w' hp hp.H)
  have e6 : isB p p.G = true := by simpa using h6
  rw [e6] at HI1
  clear h6 e6
  have e7 : isB p p.H = true := by simpa using h7
  rw [e7] at HI2
  clear h7 e7
  have f2 : ¬ p.Q < 2 := by simpa using h2
  have f0 : ¬ p.P < 2 := by simpa using h0
  have f8 : ¬ p.T < 1 := by simpa using h8
  have f9 : ¬ 2 < p.T := by simpa using h9
  have f10 : ¬ p.N < 3 * p.T + 1 := by simpa using h10
  have f11 : ¬ 7 < p.N := by simpa using h11
  clear hp
  go_enter Tryd.func37, Tryd.ntmps37
  go_wp2_with fail
  refine (HI1.out _).mono ?_
  rintro e w1 ⟨rfl, hg⟩
  have HG1 := hidTrans hg HG0
  have HB1 := bkGrown hg HB0
  have hp1 := HB1.out.prule
  clear hg hp0
  go_wp2_with fail
  refine (HI2.out _).mono ?_
  rintro e w2 ⟨rfl, hg⟩
  have HG2 := hidTrans hg HG1
  have HB2 := bkGrown hg HB1
  have hp2 := HB2.out.prule
  clear hg hp1
  go_wp2_with fail
  go_ret
  exact ⟨rfl, HG2.out⟩
set_option maxRecDepth 100000 in
set_option maxHeartbeats 1000000 in
theorem plain_16 (p : Par) (w : World) (hp : p.ok) (h0 : (decide (p.P < 2)) = false) (h1 : (decide (2305843009213693952 < p.P)) = false) (h2 : (decide (p.Q < 2)) = false) (h3 : (((p.P - 1) % p.Q != 0)) = false) (h4 : ((p.G == 1)) = false) (h5 : ((p.H == 1)) = false) (h6 : (!(isB p p.G)) = false) (h7 : (!(isB p p.H)) = false) (h8 : (decide (p.T < 1)) = false) (h9 : (decide (2 < p.T)) = false) (h10 : (decide (p.N < 3 * p.T + 1)) = false) (h11 : (decide (7 < p.N)) = false) (h12 : (decide (p.Q ≤ p.N)) = false) (h13 : (decide (p.Nodes < p.N)) = false) (h14 : (decide (8 < p.Nodes)) = false) (h15 : (decide (p.K < 1)) = false) (h16 : (decide (2 < p.K)) = true) :
    Calls Tryd.prog 37 #[p.v] w fun e w' => e = .returned (.bool false) ∧ w.grownBy w' none := by
  have HB0 : Hid (Bk (w.alloc (.cells p.cells 24)) w.heap.size 24 p.cells) := Lib.hid (Bk.new w _ _)
  have HG0 : Hid (w.grownBy (w.alloc (.cells p.cells 24)) none) := Lib.hid (World.grownBy_alloc w _ none)
  have hp0 := HB0.out.prule
  obtain ⟨q0, q1⟩ := hp.Q
  obtain ⟨p0, p1⟩ := hp.P
  have HI1 := Lib.hid (fun w' => ris_any p p.G w' hp hp.G)
  have HI2 := Lib.hid (fun w' => ris_any p p.H w' hp hp.H)
  have e6 : isB p p.G = true := by simpa using h6
  rw [e6] at HI1
  clear h6 e6
  have e7 : isB p p.H = true := by simpa using h7
  rw [e7] at HI2
  clear h7 e7
  have f2 : ¬ p.Q < 2 := by simpa using h2
  have f0 : ¬ p.P < 2 := by simpa using h0
  have f8 : ¬ p.T < 1 := by simpa using h8
  have f9 : ¬ 2 < p.T := by simpa using h9
  have f10 : ¬ p.N < 3 * p.T + 1 := by simpa using h10
  have f11 : ¬ 7 < p.N := by simpa using h11
  clear hp
  go_enter Tryd.func37, Tryd.ntmps37
  go_wp2_with fail
  refine (HI1.out _).mono ?_
  rintro e w1 ⟨rfl, hg⟩
  have HG1 := hidTrans hg HG0
  have HB1 := bkGrown hg HB0
  have hp1 := HB1.out.prule
  clear hg hp0
  go_wp2_with fail
  refine (HI2.out _).mono ?_
  rintro e w2 ⟨rfl, hg⟩
  have HG2 := hidTrans hg HG1
  have HB2 := bkGrown hg HB1
  have hp2 := HB2.out.prule
  clear hg hp1
  go_wp2_with fail
  go_ret
  exact ⟨rfl, HG2.out⟩
set_option maxRecDepth 100000 in
set_option maxHeartbeats 1000000 in
theorem plain_17 (p : Par) (w : World) (hp : p.ok) (h0 : (decide (p.P < 2)) = false) (h1 : (decide (2305843009213693952 < p.P)) = false) (h2 : (decide (p.Q < 2)) = false) (h3 : (((p.P - 1) % p.Q != 0)) = false) (h4 : ((p.G == 1)) = false) (h5 : ((p.H == 1)) = false) (h6 : (!(isB p p.G)) = false) (h7 : (!(isB p p.H)) = false) (h8 : (decide (p.T < 1)) = false) (h9 : (decide (2 < p.T)) = false) (h10 : (decide (p.N < 3 * p.T + 1)) = false) (h11 : (decide (7 < p.N)) = false) (h12 : (decide (p.Q ≤ p.N)) = false) (h13 : (decide (p.Nodes < p.N)) = false) (h14 : (decide (8 < p.Nodes)) = false) (h15 : (decide (p.K < 1)) = false) (h16 : (decide (2 < p.K)) = false) (h17 : (decide (p.D < 1)) = true) :
    Calls Tryd.prog 37 #[p.v] w fun e w' => e = .returned (.bool false) ∧ w.grownBy w' none := by
  have HB0 : Hid (Bk (w.alloc (.cells p.cells 24)) w.heap.size 24 p.cells) := Lib.hid (Bk.new w _ _)
  have HG0 : Hid (w.grownBy (w.alloc (.cells p.cells 24)) none) := Lib.hid (World.grownBy_alloc w _ none)
  have hp0 := HB0.out.prule
  obtain ⟨q0, q1⟩ := hp.Q
  obtain ⟨p0, p1⟩ := hp.P
  have HI1 := Lib.hid (fun w' => ris_any p p.G w' hp hp.G)
  have HI2 := Lib.hid (fun w' => ris_any p p.H w' hp hp.H)
  have e6 : isB p p.G = true := by simpa using h6
  rw [e6] at HI1
  clear h6 e6
  have e7 : isB p p.H = true := by simpa using h7
  rw [e7] at HI2
  clear h7 e7
  have f2 : ¬ p.Q < 2 := by simpa using h2
  have f0 : ¬ p.P < 2 := by simpa using h0
  have f8 : ¬ p.T < 1 := by simpa using h8
  have f9 : ¬ 2 < p.T := by simpa using h9
  have f10 : ¬ p.N < 3 * p.T + 1 := by simpa using h10
  have f11 : ¬ 7 < p.N := by simpa using h11
  clear hp
  go_enter Tryd.func37, Tryd.ntmps37
  go_wp2_with fail
  refine (HI1.out _).mono ?_
  rintro e w1 ⟨rfl, hg⟩
  have HG1 := hidTrans hg HG0
  have HB1 := bkGrown hg HB0
  have hp1 := HB1.out.prule
  clear hg hp0
  go_wp2_with fail
  refine (HI2.out _).mono ?_
  rintro e w2 ⟨rfl, hg⟩
  have HG2 := hidTrans hg HG1
  have HB2 := bkGrown hg HB1
  have hp2 := HB2.out.prule
  clear hg hp1
  go_wp2_with fail
  go_ret
  exact ⟨rfl, HG2.out⟩
set_option maxRecDepth 100000 in
set_option maxHeartbeats 1000000 in
theorem plain_18 (p : Par) (w : World) (hp : p.ok) (h0 : (decide (p.P < 2)) = false) (h1 : (decide (2305843009213693952 < p.P)) = false) (h2 : (decide (p.Q < 2)) = false) (h3 : (((p.P - 1) % p.Q != 0)) = false) (h4 : ((p.G == 1)) = false) (h5 : ((p.H == 1)) = false) (h6 : (!(isB p p.G)) = false) (h7 : (!(isB p p.H)) = false) (h8 : (decide (p.T < 1)) = false) (h9 : (decide (2 < p.T)) = false) (h10 : (decide (p.N < 3 * p.T + 1)) = false) (h11 : (decide (7 < p.N)) = false) (h12 : (decide (p.Q ≤ p.N)) = false) (h13 : (decide (p.Nodes < p.N)) = false) (h14 : (decide (8 < p.Nodes)) = false) (h15 : (decide (p.K < 1)) = false) (h16 : (decide (2 < p.K)) = false) (h17 : (decide (p.D < 1)) = false) (h18 : (decide (4 < p.D)) = true) :
    Calls Tryd.prog 37 #[p.v] w fun e w' => e = .returned (.bool false) ∧ w.grownBy w' none := by
  have HB0 : Hid (Bk (w.alloc (.cells p.cells 24)) w.heap.size 24 p.cells) := Lib.hid (Bk.new w _ _)
  have HG0 : Hid (w.grownBy (w.alloc (.cells p.cells 24)) none) := Lib.hid (World.grownBy_alloc w _ none)
  have hp0 := HB0.out.prule
  obtain ⟨q0, q1⟩ := hp.Q
  obtain ⟨p0, p1⟩ := hp.P
  have HI1 := Lib.hid (fun w' => ris_any p p.G w' hp hp.G)
  have HI2 := Lib.hid (fun w' => ris_any p p.H w' hp hp.H)
  have e6 : isB p p.G = true := by simpa using h6
  rw [e6] at HI1
  clear h6 e6
  have e7 : isB p p.H = true := by simpa using h7
  rw [e7] at HI2
  clear h7 e7
  have f2 : ¬ p.Q < 2 := by simpa using h2
  have f0 : ¬ p.P < 2 := by simpa using h0
  have f8 : ¬ p.T < 1 := by simpa using h8
  have f9 : ¬ 2 < p.T := by simpa using h9
  have f10 : ¬ p.N < 3 * p.T + 1 := by simpa using h10
  have f11 : ¬ 7 < p.N := by simpa using h11
  clear hp
  go_enter Tryd.func37, Tryd.ntmps37
  go_wp2_with fail
  refine (HI1.out _).mono ?_
  rintro e w1 ⟨rfl, hg⟩
  have HG1 := hidTrans hg HG0
  have HB1 := bkGrown hg HB0
  have hp1 := HB1.out.prule
  clear hg hp0
  go_wp2_with fail
  refine (HI2.out _).mono ?_
  rintro e w2 ⟨rfl, hg⟩
  have HG2 := hidTrans hg HG1
  have HB2 := bkGrown hg HB1
  have hp2 := HB2.out.prule
  clear hg hp1
  go_wp2_with fail
  go_ret
  exact ⟨rfl, HG2.out⟩
set_option maxRecDepth 100000 in
set_option maxHeartbeats 1000000 in
theorem plain_19 (p : Par) (w : World) (hp : p.ok) (h0 : (decide (p.P < 2)) = false) (h1 : (decide (2305843009213693952 < p.P)) = false) (h2 : (decide (p.Q < 2)) = false) (h3 : (((p.P - 1) % p.Q != 0)) = false) (h4 : ((p.G == 1)) = false) (h5 : ((p.H == 1)) = false) (h6 : (!(isB p p.G)) = false) (h7 : (!(isB p p.H)) = false) (h8 : (decide (p.T < 1)) = false) (h9 : (decide (2 < p.T)) = false) (h10 : (decide (p.N < 3 * p.T + 1)) = false) (h11 : (decide (7 < p.N)) = false) (h12 : (decide (p.Q ≤ p.N)) = false) (h13 : (decide (p.Nodes < p.N)) = false) (h14 : (decide (8 < p.Nodes)) = false) (h15 : (decide (p.K < 1)) = false) (h16 : (decide (2 < p.K)) = false) (h17 : (decide (p.D < 1)) = false) (h18 : (decide (4 < p.D)) = false) (h19 : (decide (p.R < 1)) = true) :
    Calls Tryd.prog 37 #[p.v] w fun e w' => e = .returned (.bool false) ∧ w.grownBy w' none := by
  have HB0 : Hid (Bk (w.alloc (.cells p.cells 24)) w.heap.size 24 p.cells) := Lib.hid (Bk.new w _ _)
  have HG0 : Hid (w.grownBy (w.alloc (.cells p.cells 24)) none) := Lib.hid (World.grownBy_alloc w _ none)
  have hp0 := HB0.out.prule
  obtain ⟨q0, q1⟩ := hp.Q
  obtain ⟨p0, p1⟩ := hp.P
  have HI1 := Lib.hid (fun w' => ris_any p p.G w' hp hp.G)
  have HI2 := Lib.hid (fun w' => ris_any p p.H w' hp hp.H)
  have e6 : isB p p.G = true := by simpa using h6
  rw [e6] at HI1
  clear h6 e6
  have e7 : isB p p.H = true := by simpa using h7
  rw [e7] at HI2
  clear h7 e7
  have f2 : ¬ p.Q < 2 := by simpa using h2
  have f0 : ¬ p.P < 2 := by simpa using h0
  have f8 : ¬ p.T < 1 := by simpa using h8
  have f9 : ¬ 2 < p.T := by simpa using h9
  have f10 : ¬ p.N < 3 * p.T + 1 := by simpa using h10
  have f11 : ¬ 7 < p.N := by simpa using h11
  clear hp
  go_enter Tryd.func37, Tryd.ntmps37
  go_wp2_with fail
  refine (HI1.out _).mono ?_
  rintro e w1 ⟨rfl, hg⟩
  have HG1 := hidTrans hg HG0
  have HB1 := bkGrown hg HB0
  have hp1 := HB1.out.prule
  clear hg hp0
  go_wp2_with fail
  refine (HI2.out _).mono ?_
  rintro e w2 ⟨rfl, hg⟩
  have HG2 := hidTrans hg HG1
  have HB2 := bkGrown hg HB1
  have hp2 := HB2.out.prule
  clear hg hp1
  go_wp2_with fail
  go_ret
  exact ⟨rfl, HG2.out⟩
set_option maxRecDepth 100000 in
set_option maxHeartbeats 1000000 in
theorem plain_20 (p : Par) (w : World) (hp : p.ok) (h0 : (decide (p.P < 2)) = false) (h1 : (decide (2305843009213693952 < p.P)) = false) (h2 : (decide (p.Q < 2)) = false) (h3 : (((p.P - 1) % p.Q != 0)) = false) (h4 : ((p.G == 1)) = false) (h5 : ((p.H == 1)) = false) (h6 : (!(isB p p.G)) = false) (h7 : (!(isB p p.H)) = false) (h8 : (decide (p.T < 1)) = false) (h9 : (decide (2 < p.T)) = false) (h10 : (decide (p.N < 3 * p.T + 1)) = false) (h11 : (decide (7 < p.N)) = false) (h12 : (decide (p.Q ≤ p.N)) = false) (h13 : (decide (p.Nodes < p.N)) = false) (h14 : (decide (8 < p.Nodes)) = false) (h15 : (decide (p.K < 1)) = false) (h16 : (decide (2 < p.K)) = false) (h17 : (decide (p.D < 1)) = false) (h18 : (decide (4 < p.D)) = false) (h19 : (decide (p.R < 1)) = false) (h20 : (decide (p.D < p.R)) = true) :
    Calls Tryd.prog 37 #[p.v] w fun e w' => e = .returned (.bool false) ∧ w.grownBy w' none := by
  have HB0 : Hid (Bk (w.alloc (.cells p.cells 24)) w.heap.size 24 p.cells) := Lib.hid (Bk.new w _ _)
  have HG0 : Hid (w.grownBy (w.alloc (.cells p.cells 24)) none) := Lib.hid (World.grownBy_alloc w _ none)
  have hp0 := HB0.out.prule
  obtain ⟨q0, q1⟩ := hp.Q
  obtain ⟨p0, p1⟩ := hp.P
  have HI1 := Lib.hid (fun w' => ris_any p p.G w' hp hp.G)
  have HI2 := Lib.hid (fun w' => ris_any p p.H w' hp hp.H)
  have e6 : isB p p.G = true := by simpa using h6
  rw [e6] at HI1
  clear h6 e6
  have e7 : isB p p.H = true := by simpa using h7
  rw [e7] at HI2
  clear h7 e7
  have f2 : ¬ p.Q < 2 := by simpa using h2
  have f0 : ¬ p.P < 2 := by simpa using h0
  have f8 : ¬ p.T < 1 := by simpa using h8
  have f9 : ¬ 2 < p.T := by simpa using h9
  have f10 : ¬ p.N < 3 * p.T + 1 := by simpa using h10
  have f11 : ¬ 7 < p.N := by simpa using h11
  clear hp
  go_enter Tryd.func37, Tryd.ntmps37
  go_wp2_with fail
  refine (HI1.out _).mono ?_
  rintro e w1 ⟨rfl, hg⟩
  have HG1 := hidTrans hg HG0
  have HB1 := bkGrown hg HB0
  have hp1 := HB1.out.prule
  clear hg hp0
  go_wp2_with fail
  refine (HI2.out _).mono ?_
  rintro e w2 ⟨rfl, hg⟩
  have HG2 := hidTrans hg HG1
  have HB2 := bkGrown hg HB1
  have hp2 := HB2.out.prule
  clear hg hp1
  go_wp2_with fail
  go_ret
  exact ⟨rfl, HG2.out⟩
set_option maxRecDepth 100000 in
set_option maxHeartbeats 1000000 in
theorem plain_21 (p : Par) (w : World) (hp : p.ok) (h0 : (decide (p.P < 2)) = false) (h1 : (decide (2305843009213693952 < p.P)) = false) (h2 : (decide (p.Q < 2)) = false) (h3 : (((p.P - 1) % p.Q != 0)) = false) (h4 : ((p.G == 1)) = false) (h5 : ((p.H == 1)) = false) (h6 : (!(isB p p.G)) = false) (h7 : (!(isB p p.H)) = false) (h8 : (decide (p.T < 1)) = false) (h9 : (decide (2 < p.T)) = false) (h10 : (decide (p.N < 3 * p.T + 1)) = false) (h11 : (decide (7 < p.N)) = false) (h12 : (decide (p.Q ≤ p.N)) = false) (h13 : (decide (p.Nodes < p.N)) = false) (h14 : (decide (8 < p.Nodes)) = false) (h15 : (decide (p.K < 1)) = false) (h16 : (decide (2 < p.K)) = false) (h17 : (decide (p.D < 1)) = false) (h18 : (decide (4 < p.D)) = false) (h19 : (decide (p.R < 1)) = false) (h20 : (decide (p.D < p.R)) = false) (h21 : (decide (p.M < 1)) = true) :
    Calls Tryd.prog 37 #[p.v] w fun e w' => e = .returned (.bool false) ∧ w.grownBy w' none := by
  have HB0 : Hid (Bk (w.alloc (.cells p.cells 24)) w.heap.size 24 p.cells) := Lib.hid (Bk.new w _ _)
  have HG0 : Hid (w.grownBy (w.alloc (.cells p.cells 24)) none) := Lib.hid (World.grownBy_alloc w _ none)
  have hp0 := HB0.out.prule
  obtain ⟨q0, q1⟩ := hp.Q
  obtain ⟨p0, p1⟩ := hp.P
  have HI1 := Lib.hid (fun w' => ris_any p p.G w' hp hp.G)
  have HI2 := Lib.hid (fun w' => ris_any p p.H w' hp hp.H)
  have e6 : isB p p.G = true := by simpa using h6
  rw [e6] at HI1
  clear h6 e6
  have e7 : isB p p.H = true := by simpa using h7
  rw [e7] at HI2
  clear h7 e7
  have f2 : ¬ p.Q < 2 := by simpa using h2
  have f0 : ¬ p.P < 2 := by simpa using h0
  have f8 : ¬ p.T < 1 := by simpa using h8
  have f9 : ¬ 2 < p.T := by simpa using h9
  have f10 : ¬ p.N < 3 * p.T + 1 := by simpa using h10
  have f11 : ¬ 7 < p.N := by simpa using h11
  clear hp
  go_enter Tryd.func37, Tryd.ntmps37
  go_wp2_with fail
  refine (HI1.out _).mono ?_
  rintro e w1 ⟨rfl, hg⟩
  have HG1 := hidTrans hg HG0
  have HB1 := bkGrown hg HB0
  have hp1 := HB1.out.prule
  clear hg hp0
  go_wp2_with fail
  refine (HI2.out _).mono ?_
  rintro e w2 ⟨rfl, hg⟩
  have HG2 := hidTrans hg HG1
  have HB2 := bkGrown hg HB1
  have hp2 := HB2.out.prule
  clear hg hp1
  go_wp2_with fail
  go_ret
  exact ⟨rfl, HG2.out⟩
set_option maxRecDepth 100000 in
set_option maxHeartbeats 1000000 in
theorem plain_22 (p : Par) (w : World) (hp : p.ok) (h0 : (decide (p.P < 2)) = false) (h1 : (decide (2305843009213693952 < p.P)) = false) (h2 : (decide (p.Q < 2)) = false) (h3 : (((p.P - 1) % p.Q != 0)) = false) (h4 : ((p.G == 1)) = false) (h5 : ((p.H == 1)) = false) (h6 : (!(isB p p.G)) = false) (h7 : (!(isB p p.H)) = false) (h8 : (decide (p.T < 1)) = false) (h9 : (decide (2 < p.T)) = false) (h10 : (decide (p.N < 3 * p.T + 1)) = false) (h11 : (decide (7 < p.N)) = false) (h12 : (decide (p.Q ≤ p.N)) = false) (h13 : (decide (p.Nodes < p.N)) = false) (h14 : (decide (8 < p.Nodes)) = false) (h15 : (decide (p.K < 1)) = false) (h16 : (decide (2 < p.K)) = false) (h17 : (decide (p.D < 1)) = false) (h18 : (decide (4 < p.D)) = false) (h19 : (decide (p.R < 1)) = false) (h20 : (decide (p.D < p.R)) = false) (h21 : (decide (p.M < 1)) = false) (h22 : (decide (1048576 < p.M)) = true) :
    Calls Tryd.prog 37 #[p.v] w fun e w' => e = .returned (.bool false) ∧ w.grownBy w' none := by
  have HB0 : Hid (Bk (w.alloc (.cells p.cells 24)) w.heap.size 24 p.cells) := Lib.hid (Bk.new w _ _)
  have HG0 : Hid (w.grownBy (w.alloc (.cells p.cells 24)) none) := Lib.hid (World.grownBy_alloc w _ none)
  have hp0 := HB0.out.prule
  obtain ⟨q0, q1⟩ := hp.Q
  obtain ⟨p0, p1⟩ := hp.P
  have HI1 := Lib.hid (fun w' => ris_any p p.G w' hp hp.G)
  have HI2 := Lib.hid (fun w' => ris_any p p.H w' hp hp.H)
  have e6 : isB p p.G = true := by simpa using h6
  rw [e6] at HI1
  clear h6 e6
  have e7 : isB p p.H = true := by simpa using h7
  rw [e7] at HI2
  clear h7 e7
  have f2 : ¬ p.Q < 2 := by simpa using h2
  have f0 : ¬ p.P < 2 := by simpa using h0
  have f8 : ¬ p.T < 1 := by simpa using h8
  have f9 : ¬ 2 < p.T := by simpa using h9
  have f10 : ¬ p.N < 3 * p.T + 1 := by simpa using h10
  have f11 : ¬ 7 < p.N := by simpa using h11
  clear hp
  go_enter Tryd.func37, Tryd.ntmps37
  go_wp2_with fail
  refine (HI1.out _).mono ?_
  rintro e w1 ⟨rfl, hg⟩
  have HG1 := hidTrans hg HG0
  have HB1 := bkGrown hg HB0
  have hp1 := HB1.out.prule
  clear hg hp0
  go_wp2_with fail
  refine (HI2.out _).mono ?_
  rintro e w2 ⟨rfl, hg⟩
  have HG2 := hidTrans hg HG1
  have HB2 := bkGrown hg HB1
  have hp2 := HB2.out.prule
  clear hg hp1
  go_wp2_with fail
  go_ret
  exact ⟨rfl, HG2.out⟩
set_option maxRecDepth 100000 in
set_option maxHeartbeats 1000000 in
theorem plain_23 (p : Par) (w : World) (hp : p.ok) (h0 : (decide (p.P < 2)) = false) (h1 : (decide (2305843009213693952 < p.P)) = false) (h2 : (decide (p.Q < 2)) = false) (h3 : (((p.P - 1) % p.Q != 0)) = false) (h4 : ((p.G == 1)) = false) (h5 : ((p.H == 1)) = false) (h6 : (!(isB p p.G)) = false) (h7 : (!(isB p p.H)) = false) (h8 : (decide (p.T < 1)) = false) (h9 : (decide (2 < p.T)) = false) (h10 : (decide (p.N < 3 * p.T + 1)) = false) (h11 : (decide (7 < p.N)) = false) (h12 : (decide (p.Q ≤ p.N)) = false) (h13 : (decide (p.Nodes < p.N)) = false) (h14 : (decide (8 < p.Nodes)) = false) (h15 : (decide (p.K < 1)) = false) (h16 : (decide (2 < p.K)) = false) (h17 : (decide (p.D < 1)) = false) (h18 : (decide (4 < p.D)) = false) (h19 : (decide (p.R < 1)) = false) (h20 : (decide (p.D < p.R)) = false) (h21 : (decide (p.M < 1)) = false) (h22 : (decide (1048576 < p.M)) = false) (h23 : (decide (p.X < 1)) = true) :
    Calls Tryd.prog 37 #[p.v] w fun e w' => e = .returned (.bool false) ∧ w.grownBy w' none := by
  have HB0 : Hid (Bk (w.alloc (.cells p.cells 24)) w.heap.size 24 p.cells) := Lib.hid (Bk.new w _ _)
  have HG0 : Hid (w.grownBy (w.alloc (.cells p.cells 24)) none) := Lib.hid (World.grownBy_alloc w _ none)
  have hp0 := HB0.out.prule
  obtain ⟨q0, q1⟩ := hp.Q
  obtain ⟨p0, p1⟩ := hp.P
  have HI1 := Lib.hid (fun w' => ris_any p p.G w' hp hp.G)
  have HI2 := Lib.hid (fun w' => ris_any p p.H w' hp hp.H)
  have e6 : isB p p.G = true := by simpa using h6
  rw [e6] at HI1
  clear h6 e6
  have e7 : isB p p.H = true := by simpa using h7
  rw [e7] at HI2
  clear h7 e7
  have f2 : ¬ p.Q < 2 := by simpa using h2
  have f0 : ¬ p.P < 2 := by simpa using h0
  have f8 : ¬ p.T < 1 := by simpa using h8
  have f9 : ¬ 2 < p.T := by simpa using h9
  have f10 : ¬ p.N < 3 * p.T + 1 := by simpa using h10
  have f11 : ¬ 7 < p.N := by simpa using h11
  clear hp
  go_enter Tryd.func37, Tryd.ntmps37
  go_wp2_with fail
  refine (HI1.out _).mono ?_
  rintro e w1 ⟨rfl, hg⟩
  have HG1 := hidTrans hg HG0
  have HB1 := bkGrown hg HB0
  have hp1 := HB1.out.prule
  clear hg hp0
  go_wp2_with fail
  refine (HI2.out _).mono ?_
  rintro e w2 ⟨rfl, hg⟩
  have HG2 := hidTrans hg HG1
  have HB2 := bkGrown hg HB1
  have hp2 := HB2.out.prule
  clear hg hp1
  go_wp2_with fail
  go_ret
  exact ⟨rfl, HG2.out⟩
set_option maxRecDepth 100000 in
set_option maxHeartbeats 1000000 in
theorem plain_24 (p : Par) (w : World) (hp : p.ok) (h0 : (decide (p.P < 2)) = false) (h1 : (decide (2305843009213693952 < p.P)) = false) (h2 : (decide (p.Q < 2)) = false) (h3 : (((p.P - 1) % p.Q != 0)) = false) (h4 : ((p.G == 1)) = false) (h5 : ((p.H == 1)) = false) (h6 : (!(isB p p.G)) = false) (h7 : (!(isB p p.H)) = false) (h8 : (decide (p.T < 1)) = false) (h9 : (decide (2 < p.T)) = false) (h10 : (decide (p.N < 3 * p.T + 1)) = false) (h11 : (decide (7 < p.N)) = false) (h12 : (decide (p.Q ≤ p.N)) = false) (h13 : (decide (p.Nodes < p.N)) = false) (h14 : (decide (8 < p.Nodes)) = false) (h15 : (decide (p.K < 1)) = false) (h16 : (decide (2 < p.K)) = false) (h17 : (decide (p.D < 1)) = false) (h18 : (decide (4 < p.D)) = false) (h19 : (decide (p.R < 1)) = false) (h20 : (decide (p.D < p.R)) = false) (h21 : (decide (p.M < 1)) = false) (h22 : (decide (1048576 < p.M)) = false) (h23 : (decide (p.X < 1)) = false) (h24 : (decide (1048576 < p.X)) = true) :
    Calls Tryd.prog 37 #[p.v] w fun e w' => e = .returned (.bool false) ∧ w.grownBy w' none := by
  have HB0 : Hid (Bk (w.alloc (.cells p.cells 24)) w.heap.size 24 p.cells) := Lib.hid (Bk.new w _ _)
  have HG0 : Hid (w.grownBy (w.alloc (.cells p.cells 24)) none) := Lib.hid (World.grownBy_alloc w _ none)
  have hp0 := HB0.out.prule
  obtain ⟨q0, q1⟩ := hp.Q
  obtain ⟨p0, p1⟩ := hp.P
  have HI1 := Lib.hid (fun w' => ris_any p p.G w' hp hp.G)
  have HI2 := Lib.hid (fun w' => ris_any p p.H w' hp hp.H)
  have e6 : isB p p.G = true := by simpa using h6
  rw [e6] at HI1
  clear h6 e6
  have e7 : isB p p.H = true := by simpa using h7
  rw [e7] at HI2
  clear h7 e7
  have f2 : ¬ p.Q < 2 := by simpa using h2
  have f0 : ¬ p.P < 2 := by simpa using h0
  have f8 : ¬ p.T < 1 := by simpa using h8
  have f9 : ¬ 2 < p.T := by simpa using h9
  have f10 : ¬ p.N < 3 * p.T + 1 := by simpa using h10
  have f11 : ¬ 7 < p.N := by simpa using h11
  clear hp
  go_enter Tryd.func37, Tryd.ntmps37
  go_wp2_with fail
  refine (HI1.out _).mono ?_
  rintro e w1 ⟨rfl, hg⟩
  have HG1 := hidTrans hg HG0
  have HB1 := bkGrown hg HB0
  have hp1 := HB1.out.prule
  clear hg hp0
  go_wp2_with fail
  refine (HI2.out _).mono ?_
  rintro e w2 ⟨rfl, hg⟩
  have HG2 := hidTrans hg HG1
  have HB2 := bkGrown hg HB1
  have hp2 := HB2.out.prule
  clear hg hp1
  go_wp2_with fail
  go_ret
  exact ⟨rfl, HG2.out⟩
set_option maxRecDepth 100000 in
set_option maxHeartbeats 1000000 in
theorem plain_25 (p : Par) (w : World) (hp : p.ok) (h0 : (decide (p.P < 2)) = false) (h1 : (decide (2305843009213693952 < p.P)) = false) (h2 : (decide (p.Q < 2)) = false) (h3 : (((p.P - 1) % p.Q != 0)) = false) (h4 : ((p.G == 1)) = false) (h5 : ((p.H == 1)) = false) (h6 : (!(isB p p.G)) = false) (h7 : (!(isB p p.H)) = false) (h8 : (decide (p.T < 1)) = false) (h9 : (decide (2 < p.T)) = false) (h10 : (decide (p.N < 3 * p.T + 1)) = false) (h11 : (decide (7 < p.N)) = false) (h12 : (decide (p.Q ≤ p.N)) = false) (h13 : (decide (p.Nodes < p.N)) = false) (h14 : (decide (8 < p.Nodes)) = false) (h15 : (decide (p.K < 1)) = false) (h16 : (decide (2 < p.K)) = false) (h17 : (decide (p.D < 1)) = false) (h18 : (decide (4 < p.D)) = false) (h19 : (decide (p.R < 1)) = false) (h20 : (decide (p.D < p.R)) = false) (h21 : (decide (p.M < 1)) = false) (h22 : (decide (1048576 < p.M)) = false) (h23 : (decide (p.X < 1)) = false) (h24 : (decide (1048576 < p.X)) = false) :
    Calls Tryd.prog 37 #[p.v] w fun e w' => e = .returned (.bool (m8 p)) ∧ w.grownBy w' none := by
  have HB0 : Hid (Bk (w.alloc (.cells p.cells 24)) w.heap.size 24 p.cells) := Lib.hid (Bk.new w _ _)
  have HG0 : Hid (w.grownBy (w.alloc (.cells p.cells 24)) none) := Lib.hid (World.grownBy_alloc w _ none)
  have hp0 := HB0.out.prule
  obtain ⟨q0, q1⟩ := hp.Q
  obtain ⟨p0, p1⟩ := hp.P
  have HI1 := Lib.hid (fun w' => ris_any p p.G w' hp hp.G)
  have HI2 := Lib.hid (fun w' => ris_any p p.H w' hp hp.H)
  have e6 : isB p p.G = true := by simpa using h6
  rw [e6] at HI1
  clear h6 e6
  have e7 : isB p p.H = true := by simpa using h7
  rw [e7] at HI2
  clear h7 e7
  have f2 : ¬ p.Q < 2 := by simpa using h2
  have f0 : ¬ p.P < 2 := by simpa using h0
  have f8 : ¬ p.T < 1 := by simpa using h8
  have f9 : ¬ 2 < p.T := by simpa using h9
  have f10 : ¬ p.N < 3 * p.T + 1 := by simpa using h10
  have f11 : ¬ 7 < p.N := by simpa using h11
  simp only [decide_eq_false_iff_not, Int.not_lt] at h17 h18 h21 h22 h23 h24
  obtain ⟨e0, e1⟩ := mul_bd p.D p.M 4 1048576 (by omega) h18 (by omega) h22
  obtain ⟨g0, g1⟩ := mul_bd (p.D * p.M) p.X (4 * 1048576) 1048576 e0 e1 (by omega) h24
  have HE : Hid (m8 p = decide (2 * (p.D * p.M * p.X + p.M) < p.Q)) := Lib.hid rfl
  have k17 : decide (p.D < 1) = false := by simp; omega
  have k18 : decide (4 < p.D) = false := by simp; omega
  have k21 : decide (p.M < 1) = false := by simp; omega
  have k22 : decide (1048576 < p.M) = false := by simp; omega
  have k23 : decide (p.X < 1) = false := by simp; omega
  have k24 : decide (1048576 < p.X) = false := by simp; omega
  clear hp
  go_enter Tryd.func37, Tryd.ntmps37
  go_wp2_with fail
  refine (HI1.out _).mono ?_
  rintro e w1 ⟨rfl, hg⟩
  have HG1 := hidTrans hg HG0
  have HB1 := bkGrown hg HB0
  have hp1 := HB1.out.prule
  clear hg hp0
  go_wp2_with fail
  refine (HI2.out _).mono ?_
  rintro e w2 ⟨rfl, hg⟩
  have HG2 := hidTrans hg HG1
  have HB2 := bkGrown hg HB1
  have hp2 := HB2.out.prule
  clear hg hp1
  go_wp2_with fail
  go_ret
  exact ⟨ret_bool HE.out.symm, HG2.out⟩
theorem plain_any (p : Par) (w : World) (hp : p.ok) : Calls Tryd.prog 37 #[p.v] w fun e w' => e = .returned (.bool (plainB p)) ∧ w.grownBy w' none := by
  cases h0 : (decide (p.P < 2)) with
  | true =>
    have e : plainB p = false := by simp [plainB, tests, h0]
    rw [e]
    exact plain_0 p w hp h0
  | false =>
  cases h1 : (decide (2305843009213693952 < p.P)) with
  | true =>
    have e : plainB p = false := by simp [plainB, tests, h1]
    rw [e]
    exact plain_1 p w hp h0 h1
  | false =>
  cases h2 : (decide (p.Q < 2)) with
  | true =>
    have e : plainB p = false := by simp [plainB, tests, h2]
    rw [e]
    exact plain_2 p w hp h0 h1 h2
  | false =>
  cases h3 : (((p.P - 1) % p.Q != 0)) with
  | true =>
    have e : plainB p = false := by simp [plainB, tests, h3]
    rw [e]
    exact plain_3 p w hp h0 h1 h2 h3
  | false =>
  cases h4 : ((p.G == 1)) with
  | true =>
    have e : plainB p = false := by simp [plainB, tests, h4]
    rw [e]
    exact plain_4 p w hp h0 h1 h2 h3 h4
  | false =>
  cases h5 : ((p.H == 1)) with
  | true =>
    have e : plainB p = false := by simp [plainB, tests, h5]
    rw [e]
    exact plain_5 p w hp h0 h1 h2 h3 h4 h5
  | false =>
  cases h6 : (!(isB p p.G)) with
  | true =>
    have e : plainB p = false := by simp [plainB, tests, show isB p p.G = false by simpa using h6]
    rw [e]
    exact plain_6 p w hp h0 h1 h2 h3 h4 h5 h6
  | false =>
  cases h7 : (!(isB p p.H)) with
  | true =>
    have e : plainB p = false := by simp [plainB, tests, show isB p p.H = false by simpa using h7]
    rw [e]
    exact plain_7 p w hp h0 h1 h2 h3 h4 h5 h6 h7
  | false =>
  cases h8 : (decide (p.T < 1)) with
  | true =>
    have e : plainB p = false := by simp [plainB, tests, h8]
    rw [e]
    exact plain_8 p w hp h0 h1 h2 h3 h4 h5 h6 h7 h8
  | false =>
  cases h9 : (decide (2 < p.T)) with
  | true =>
    have e : plainB p = false := by simp [plainB, tests, h9]
    rw [e]
    exact plain_9 p w hp h0 h1 h2 h3 h4 h5 h6 h7 h8 h9
  | false =>
  cases h10 : (decide (p.N < 3 * p.T + 1)) with
  | true =>
    have e : plainB p = false := by simp [plainB, tests, h10]
    rw [e]
    exact plain_10 p w hp h0 h1 h2 h3 h4 h5 h6 h7 h8 h9 h10
  | false =>
  cases h11 : (decide (7 < p.N)) with
  | true =>
    have e : plainB p = false := by simp [plainB, tests, h11]
    rw [e]
    exact plain_11 p w hp h0 h1 h2 h3 h4 h5 h6 h7 h8 h9 h10 h11
  | false =>
  cases h12 : (decide (p.Q ≤ p.N)) with
  | true =>
    have e : plainB p = false := by simp [plainB, tests, h12]
    rw [e]
    exact plain_12 p w hp h0 h1 h2 h3 h4 h5 h6 h7 h8 h9 h10 h11 h12
  | false =>
  cases h13 : (decide (p.Nodes < p.N)) with
  | true =>
    have e : plainB p = false := by simp [plainB, tests, h13]
    rw [e]
    exact plain_13 p w hp h0 h1 h2 h3 h4 h5 h6 h7 h8 h9 h10 h11 h12 h13
  | false =>
  cases h14 : (decide (8 < p.Nodes)) with
  | true =>
    have e : plainB p = false := by simp [plainB, tests, h14]
    rw [e]
    exact plain_14 p w hp h0 h1 h2 h3 h4 h5 h6 h7 h8 h9 h10 h11 h12 h13 h14
  | false =>
  cases h15 : (decide (p.K < 1)) with
  | true =>
    have e : plainB p = false := by simp [plainB, tests, h15]
    rw [e]
    exact plain_15 p w hp h0 h1 h2 h3 h4 h5 h6 h7 h8 h9 h10 h11 h12 h13 h14 h15
  | false =>
  cases h16 : (decide (2 < p.K)) with
  | true =>
    have e : plainB p = false := by simp [plainB, tests, h16]
    rw [e]
    exact plain_16 p w hp h0 h1 h2 h3 h4 h5 h6 h7 h8 h9 h10 h11 h12 h13 h14 h15 h16
  | false =>
  cases h17 : (decide (p.D < 1)) with
  | true =>
    have e : plainB p = false := by simp [plainB, tests, h17]
    rw [e]
    exact plain_17 p w hp h0 h1 h2 h3 h4 h5 h6 h7 h8 h9 h10 h11 h12 h13 h14 h15 h16 h17
  | false =>
  cases h18 : (decide (4 < p.D)) with
  | true =>
    have e : plainB p = false := by simp [plainB, tests, h18]
    rw [e]
    exact plain_18 p w hp h0 h1 h2 h3 h4 h5 h6 h7 h8 h9 h10 h11 h12 h13 h14 h15 h16 h17 h18
  | false =>
  cases h19 : (decide (p.R < 1)) with
  | true =>
    have e : plainB p = false := by simp [plainB, tests, h19]
    rw [e]
    exact plain_19 p w hp h0 h1 h2 h3 h4 h5 h6 h7 h8 h9 h10 h11 h12 h13 h14 h15 h16 h17 h18 h19
  | false =>
  cases h20 : (decide (p.D < p.R)) with
  | true =>
    have e : plainB p = false := by simp [plainB, tests, h20]
    rw [e]
    exact plain_20 p w hp h0 h1 h2 h3 h4 h5 h6 h7 h8 h9 h10 h11 h12 h13 h14 h15 h16 h17 h18 h19 h20
  | false =>
  cases h21 : (decide (p.M < 1)) with
  | true =>
    have e : plainB p = false := by simp [plainB, tests, h21]
    rw [e]
    exact plain_21 p w hp h0 h1 h2 h3 h4 h5 h6 h7 h8 h9 h10 h11 h12 h13 h14 h15 h16 h17 h18 h19 h20 h21
  | false =>
  cases h22 : (decide (1048576 < p.M)) with
  | true =>
    have e : plainB p = false := by simp [plainB, tests, h22]
    rw [e]
    exact plain_22 p w hp h0 h1 h2 h3 h4 h5 h6 h7 h8 h9 h10 h11 h12 h13 h14 h15 h16 h17 h18 h19 h20 h21 h22
  | false =>
  cases h23 : (decide (p.X < 1)) with
  | true =>
    have e : plainB p = false := by simp [plainB, tests, h23]
    rw [e]
    exact plain_23 p w hp h0 h1 h2 h3 h4 h5 h6 h7 h8 h9 h10 h11 h12 h13 h14 h15 h16 h17 h18 h19 h20 h21 h22 h23
  | false =>
  cases h24 : (decide (1048576 < p.X)) with
  | true =>
    have e : plainB p = false := by simp [plainB, tests, h24]
    rw [e]
    exact plain_24 p w hp h0 h1 h2 h3 h4 h5 h6 h7 h8 h9 h10 h11 h12 h13 h14 h15 h16 h17 h18 h19 h20 h21 h22 h23 h24
  | false =>
  have e : plainB p = m8 p := by
    unfold plainB tests
    rw [h0, h1, h2, h3, h4, h5, h6, h7, h8, h9, h10, h11, h12, h13, h14, h15, h16, h17, h18, h19, h20, h21, h22, h23, h24]
    rfl
  rw [e]
  exact plain_25 p w hp h0 h1 h2 h3 h4 h5 h6 h7 h8 h9 h10 h11 h12 h13 h14 h15 h16 h17 h18 h19 h20 h21 h22 h23 h24
end Go.Proofs.YtnjbigbiclfcoaaDoor
