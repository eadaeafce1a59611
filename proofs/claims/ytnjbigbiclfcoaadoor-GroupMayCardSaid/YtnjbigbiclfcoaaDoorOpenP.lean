/- Params and pairs that came in by value. -/
import Derived.Test.YtnjbigbiclfcoaaDoorOpen
import Derived.Test.YtnjbigbiclfcoaaDoorGrp
namespace Go.Proofs.YtnjbigbiclfcoaaDoor
open Go.ChangeShapes Go.WideShapes Go.RowKit

set_option maxRecDepth 100000 in
theorem open_params {H : Type} {enc : TypeId × Value → H} {w : World} {base : Nat} {spare : Nat → Bool} {held : Bool} {r : Reach} {b0 : Nat} {v : Value} {d : DataW H} {pl : List MemPlace}
    (hv : Value.okWide Tryd.prog w r b0 24 v) (h : DataW.Trod enc Tryd.prog w base spare held 24 v d pl) : ∃ p : Par, v = p.v ∧ p.ok := by
  obtain ⟨cs, rfl, hsz⟩ := okWide_struct Tryd.underlying24 hv
  obtain ⟨l⟩ := cs
  have hc : Tryd.prog.cellsOf 24 = 12 := by kernel_rfl
  have cu : Tryd.prog.cellsOf 22 = 1 := by kernel_rfl
  have ci : Tryd.prog.cellsOf 3 = 1 := by kernel_rfl
  have cj : Tryd.prog.cellsOf 2 = 1 := by kernel_rfl
  match l, hsz.trans hc with
  | [c0, c1, c2, c3, c4, c5, c6, c7, c8, c9, c10, c11], _ =>
    obtain ⟨fuel, hf⟩ := h
    obtain ⟨xs, n, _, _, _, hlen, hg⟩ := DataW.trod_struct Tryd.underlying24 hf
    match xs, hlen with
    | [y0, y1, y2, y3, y4, y5, y6, y7, y8, y9, y10, y11], _ =>
      have g0 := hg 0 _ rfl
      have g1 := hg 1 _ rfl
      have g2 := hg 2 _ rfl
      have g3 := hg 3 _ rfl
      have g4 := hg 4 _ rfl
      have g5 := hg 5 _ rfl
      have g6 := hg 6 _ rfl
      have g7 := hg 7 _ rfl
      have g8 := hg 8 _ rfl
      have g9 := hg 9 _ rfl
      have g10 := hg 10 _ rfl
      have g11 := hg 11 _ rfl
      simp [Value.cells, cu, ci, cj] at g0 g1 g2 g3 g4 g5 g6 g7 g8 g9 g10 g11
      obtain ⟨a0, e0, _, w0⟩ := DataW.trod_int Tryd.underlying22 g0
      simp at e0
      obtain ⟨a1, e1, _, w1⟩ := DataW.trod_int Tryd.underlying22 g1
      simp at e1
      obtain ⟨a2, e2, _, w2⟩ := DataW.trod_int Tryd.underlying22 g2
      simp at e2
      obtain ⟨a3, e3, _, w3⟩ := DataW.trod_int Tryd.underlying22 g3
      simp at e3
      obtain ⟨a4, e4, _, w4⟩ := DataW.trod_int Tryd.underlying3 g4
      simp at e4
      obtain ⟨a5, e5, _, w5⟩ := DataW.trod_int Tryd.underlying3 g5
      simp at e5
      obtain ⟨a6, e6, _, w6⟩ := DataW.trod_int Tryd.underlying3 g6
      simp at e6
      obtain ⟨a7, e7, _, w7⟩ := DataW.trod_int Tryd.underlying3 g7
      simp at e7
      obtain ⟨a8, e8, _, w8⟩ := DataW.trod_int Tryd.underlying3 g8
      simp at e8
      obtain ⟨a9, e9, _, w9⟩ := DataW.trod_int Tryd.underlying3 g9
      simp at e9
      obtain ⟨a10, e10, _, w10⟩ := DataW.trod_int Tryd.underlying2 g10
      simp at e10
      obtain ⟨a11, e11, _, w11⟩ := DataW.trod_int Tryd.underlying2 g11
      simp at e11
      subst e0 e1 e2 e3 e4 e5 e6 e7 e8 e9 e10 e11
      exact ⟨⟨a0, a1, a2, a3, a4, a5, a6, a7, a8, a9, a10, a11⟩, rfl, ⟨u64_wf w0, u64_wf w1, u64_wf w2, u64_wf w3, i64_wf w4, i64_wf w5, i64_wf w6, i64_wf w7, i64_wf w8, i64_wf w9, i64_wf w10, i64_wf w11⟩⟩
set_option maxRecDepth 100000 in
theorem open_pair {H : Type} {enc : TypeId × Value → H} {w : World} {base : Nat} {spare : Nat → Bool} {held : Bool} {r : Reach} {b0 : Nat} {v : Value} {d : DataW H} {pl : List MemPlace}
    (hv : Value.okWide Tryd.prog w r b0 35 v) (h : DataW.Trod enc Tryd.prog w base spare held 35 v d pl) : ∃ x : Int × Int, v = .agg #[.int .u64 x.1, .int .u64 x.2] ∧ U64 x.1 ∧ U64 x.2 := by
  obtain ⟨cs, rfl, hsz⟩ := okWide_struct Tryd.underlying35 hv
  obtain ⟨l⟩ := cs
  have hc : Tryd.prog.cellsOf 35 = 2 := by kernel_rfl
  have cu : Tryd.prog.cellsOf 22 = 1 := by kernel_rfl
  match l, hsz.trans hc with
  | [c0, c1], _ =>
    obtain ⟨fuel, hf⟩ := h
    obtain ⟨xs, n, _, _, _, hlen, hg⟩ := DataW.trod_struct Tryd.underlying35 hf
    match xs, hlen with
    | [y0, y1], _ =>
      have g0 := hg 0 _ rfl
      have g1 := hg 1 _ rfl
      simp [Value.cells, cu] at g0 g1
      obtain ⟨a0, e0, _, w0⟩ := DataW.trod_int Tryd.underlying22 g0
      obtain ⟨a1, e1, _, w1⟩ := DataW.trod_int Tryd.underlying22 g1
      simp at e0 e1
      subst e0 e1
      exact ⟨(a0, a1), rfl, u64_wf w0, u64_wf w1⟩
theorem cells_u64 : Tryd.prog.cellsOf 22 = 1 := by kernel_rfl
theorem reads_nums : Reads (encS encU) 29 := reads_sl Tryd.underlying29 (reads_u64 Tryd.underlying22) cells_u64
theorem cells_pair : Tryd.prog.cellsOf 35 = 2 := by kernel_rfl
theorem reads_pairs : Reads (encS encP) 40 := reads_sl Tryd.underlying40 (reads_pair Tryd.underlying35 ⟨rfl, rfl⟩ ⟨rfl, rfl⟩ Tryd.underlying22 cells_pair cells_u64) cells_pair
theorem cells_nums : Tryd.prog.cellsOf 29 = 1 := by kernel_rfl
theorem cells_pairs : Tryd.prog.cellsOf 40 = 1 := by kernel_rfl
theorem cells_int : Tryd.prog.cellsOf 3 = 1 := by kernel_rfl
end Go.Proofs.YtnjbigbiclfcoaaDoor
