/- group.Times, walked; params as data. -/
import Derived.Test.YtnjbigbiclfcoaaDoorEnc
import Derived.Test.YtnjbigbiclfcoaaDoorModC
import Derived.Deep.LoopGhost
import Derived.Outline
namespace Go.Proofs.YtnjbigbiclfcoaaDoor
open Go.RowKit

instance (a : Int) : Decidable (U64 a) := by unfold U64; infer_instance
theorem ret_u64 {a b : Int} (h : a = b) : Ending.returned (.int .u64 a) = .returned (.int .u64 b) := by rw [h]
theorem ret_bool {a b : Bool} (h : a = b) : Ending.returned (.bool a) = .returned (.bool b) := by rw [h]
theorem grown_drewN' (w : World) (n : Nat) : w.grownBy (w.drewN n) none := grownBy_drewN (World.grownBy.refl w none) n
/-- What all nodes know. -/
structure Par where
  P : Int
  Q : Int
  G : Int
  H : Int
  Nodes : Int
  N : Int
  T : Int
  K : Int
  D : Int
  R : Int
  M : Int
  X : Int
structure Par.ok (p : Par) : Prop where
  P : U64 p.P
  Q : U64 p.Q
  G : U64 p.G
  H : U64 p.H
  Nodes : I64 p.Nodes
  N : I64 p.N
  T : I64 p.T
  K : I64 p.K
  D : I64 p.D
  R : I64 p.R
  M : I64 p.M
  X : I64 p.X
abbrev Par.cells (p : Par) : Array Value := #[.int .u64 p.P, .int .u64 p.Q, .int .u64 p.G, .int .u64 p.H, .int .i64 p.Nodes, .int .i64 p.N, .int .i64 p.T, .int .i64 p.K, .int .i64 p.D, .int .i64 p.R, .int .i64 p.M, .int .i64 p.X]
abbrev Par.v (p : Par) : Value := .agg p.cells
theorem Bk.par {w : World} {g : Nat} {t : TypeId} {p : Par} (h : Bk w g t p.cells) : (w.cell? ⟨g, 0, none⟩ = some (.int .u64 p.P) ∧ w.cell? ⟨g, 1, none⟩ = some (.int .u64 p.Q) ∧ w.cell? ⟨g, 2, none⟩ = some (.int .u64 p.G) ∧ w.cell? ⟨g, 3, none⟩ = some (.int .u64 p.H) ∧ w.cell? ⟨g, 4, none⟩ = some (.int .i64 p.Nodes) ∧ w.cell? ⟨g, 5, none⟩ = some (.int .i64 p.N) ∧ w.cell? ⟨g, 6, none⟩ = some (.int .i64 p.T) ∧ w.cell? ⟨g, 7, none⟩ = some (.int .i64 p.K) ∧ w.cell? ⟨g, 8, none⟩ = some (.int .i64 p.D) ∧ w.cell? ⟨g, 9, none⟩ = some (.int .i64 p.R) ∧ w.cell? ⟨g, 10, none⟩ = some (.int .i64 p.M) ∧ w.cell? ⟨g, 11, none⟩ = some (.int .i64 p.X)) := ⟨h.cell 0, h.cell 1, h.cell 2, h.cell 3, h.cell 4, h.cell 5, h.cell 6, h.cell 7, h.cell 8, h.cell 9, h.cell 10, h.cell 11⟩
/-- Each cell of a block that is known, in one rule. -/
theorem Bk.rule {w : World} {g : Nat} {t : TypeId} {cs : Array Value} (h : Bk w g t cs) : ∀ o, w.cell? ⟨g, o, none⟩ = cs[o]? := fun o => h.cell o
theorem Bk.prule {w : World} {g : Nat} {t : TypeId} {p : Par} (h : Bk w g t p.cells) : ∀ o, w.cell? ⟨g, o, none⟩ = (#[.int .u64 p.P, .int .u64 p.Q, .int .u64 p.G, .int .u64 p.H, .int .i64 p.Nodes, .int .i64 p.N, .int .i64 p.T, .int .i64 p.K, .int .i64 p.D, .int .i64 p.R, .int .i64 p.M, .int .i64 p.X] : Array Value)[o]? := fun o => h.cell o
theorem rule_alloc {w : World} {g : Nat} {cs : Array Value} (h : ∀ o, w.cell? ⟨g, o, none⟩ = cs[o]?) (hg : g < w.heap.size) (ob : Obj) : ∀ o, (w.alloc ob).cell? ⟨g, o, none⟩ = cs[o]? := fun o => (World.cell?_alloc_lt w ob ⟨g, o, none⟩ hg).trans (h o)
theorem hidTrans {w a b : World} (hg : a.grownBy b none) (h : Hid (w.grownBy a none)) : Hid (w.grownBy b none) := h.out.trans hg
theorem bkGrown {a b : World} {g : Nat} {t : TypeId} {cs : Array Value} (hg : a.grownBy b none) (h : Hid (Bk a g t cs)) : Hid (Bk b g t cs) := h.out.grown hg (by simp)
def timesI (P : Int) (l : List Int) : Int := l.foldl (fun x y => mulI x y P) (mulI 1 1 P)
theorem timesI_snoc (P : Int) (l : List Int) (k : Nat) (h : k < l.length) : timesI P (l.take (k + 1)) = mulI (timesI P (l.take k)) l[k] P := by
  unfold timesI
  rw [List.take_succ_eq_append_getElem h, List.foldl_append]
  rfl

theorem timesI_U64 (P : Int) (l : List Int) : U64 (timesI P l) := by
  unfold timesI
  rcases List.eq_nil_or_concat l with rfl | ⟨l', x, rfl⟩
  · exact mulI_U64 _ _ _
  · rw [List.concat_eq_append, List.foldl_append]
    exact mulI_U64 _ _ _

set_option maxHeartbeats 400000 in
theorem times_any (p : Par) (v : Value) (l : List Int) (X : Nat → Prop) (w : World) (h : Sl encU X w v l) :
    Calls Tryd.prog 16 #[p.v, v] w fun e w' => e = .returned (.int .u64 (timesI p.P l)) ∧ w.grownBy w' none := by
  have H := Lib.hid h
  obtain ⟨A, c, rfl, h1, h2⟩ := h.form
  clear h
  go_enter Tryd.func16, Tryd.ntmps16
  go_wp2_with fail
  refine (mul_any 1 1 p.P _ (by decide) (by decide)).mono ?_
  rintro e w' ⟨rfl, n, rfl⟩
  go_wp2_with fail
  have HB : Hid (w.grownBy ((w.alloc (Obj.cells p.cells 24)).drewN n) none ∧ Bk ((w.alloc (Obj.cells p.cells 24)).drewN n) w.heap.size 24 p.cells) := Lib.hid ⟨grownBy_drewN (World.grownBy_alloc w _ none) n, (Bk.new w _ _).drewN n⟩
  go_loopg [5, 13] l.length (fun g s5 s13 wx => ∃ j : Nat, j + g = l.length ∧ s13 = .int .i64 j ∧ s5 = .int .u64 (timesI p.P (l.take j)) ∧ Hid (w.grownBy wx none ∧ Bk wx w.heap.size 24 p.cells))
  case atStart => exact ⟨0, by omega, rfl, rfl, HB⟩
  case round =>
    obtain ⟨j, hj, rfl, rfl, HX⟩ := hrel
    cases gk with
    | zero =>
      obtain rfl : j = l.length := by omega
      have HE : Hid (timesI p.P (l.take l.length) = timesI p.P l) := Lib.hid (by rw [List.take_length])
      go_wp2
      go_ret
      exact ⟨ret_u64 HE.out, HX.out.1⟩
    | succ k =>
      have hjn : (j : Int) < (l.length : Int) := by omega
      have hjN : j < l.length := by omega
      obtain ⟨g, o, c', e, _, _, hc, hu⟩ := (H.out.kept HX.out.1).atU hjN
      injection e with e1 e2 e3
      subst e1 e3
      have cP : wr.cell? ⟨w.heap.size, 0, none⟩ = some (.int .u64 p.P) := HX.out.2.cell 0
      have HS := Lib.hid (timesI_snoc p.P l j hjN)
      have HM := Lib.hid (timesI_U64 p.P (l.take j))
      have HU := Lib.hid hu
      generalize l[j] = y at *
      generalize timesI p.P (l.take j) = t at *
      clear hu e2
      go_wp2_with fail
      refine (mul_any t y p.P _ HM.out HU.out).mono ?_
      rintro e w' ⟨rfl, n, rfl⟩
      go_wp2
      go_roundg k
      case measure => omega
      case rel => exact ⟨j + 1, by omega, by go_num, by rw [HS.out], Lib.hid ⟨grownBy_drewN HX.out.1 n, HX.out.2.drewN n⟩⟩
end Go.Proofs.YtnjbigbiclfcoaaDoor
