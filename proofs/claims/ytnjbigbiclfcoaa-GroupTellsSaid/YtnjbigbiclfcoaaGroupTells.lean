/- consistorylaw02.GroupTells, walked: what group tells is what the document tells. -/
import Derived.Test.YtnjbigbiclfcoaaRGrp
import Derived.Test.YtnjbigbiclfcoaaOpen
import Derived.Test.YtnjbigbiclfcoaaAcc
import Derived.Deep.DeepMust
namespace Go.Proofs.Ytnjbigbiclfcoaa
open Go.RowKit

theorem elem_u64 : ElemOk Try.prog 25 22 encU.size 8 := ElemOk.mk' (by decide) Try.underlying25 u64_info rfl
set_option maxHeartbeats 1000000 in
theorem gtells_law (p : Par) (v : Value) (l : List Int) (x e : Int) (y : Int × Int) (w : World) (hp : p.ok) (h : Sl encU (fun _ => True) w v l) (hx : U64 x) (he : U64 e) (h1 : U64 y.1) (h2 : U64 y.2) :
    Calls Try.prog 3 #[p.v, v, .int .u64 x, .int .u64 e, .agg #[.int .u64 y.1, .int .u64 y.2]] w fun e' w' => e' = .returned (.bool true) ∧ w.grownBy w' none := by
  have H := Lib.hid h
  have HP := Lib.hid hp
  have HX := Lib.hid hx
  have HE := Lib.hid he
  have H1 := Lib.hid h1
  have H2 := Lib.hid h2
  obtain ⟨A, c, rfl, hl, hm⟩ := h.form
  clear h hp hx he h1 h2
  by_cases hb0 : 100 < l.length
  · have hb0' : decide ((100 : Int) < (l.length : Int)) = true := by simp; omega
    go_enter Try.func3, Try.ntmps3
    go_wp2
    go_ret
    exact ⟨rfl, (World.grownBy_alloc w _ none).trans (World.grownBy_alloc _ _ none)⟩
  · have hb0' : decide ((100 : Int) < (l.length : Int)) = false := by simp; omega
    have HL : Hid (Sl encU (fun g => g < w.heap.size) w (.slice A l.length c) l) := Lib.hid (H.out.more fun g h _ => h)
    have hacc := Acc.made encU ((w.alloc (Obj.cells p.cells 24)).alloc (Obj.cells #[.int .u64 y.1, .int .u64 y.2] 27)) 22 (B := w.heap.size) (by simp; omega) (fun g => w.heap.size ≤ g) (by simp; omega)
    rw [World.size_alloc, World.size_alloc] at hacc
    have hgr : w.grownBy (((w.alloc (Obj.cells p.cells 24)).alloc (Obj.cells #[.int .u64 y.1, .int .u64 y.2] 27)).alloc (.cells #[] 22)) none := ((World.grownBy_alloc w _ none).trans (World.grownBy_alloc _ _ none)).trans (World.grownBy_alloc _ _ none)
    have hsl := HL.out.kept hgr
    go_enter Try.func3, Try.ntmps3
    have hb1 : w.heap.size ≤ (((w.alloc (Obj.cells p.cells 24)).alloc (Obj.cells #[.int .u64 y.1, .int .u64 y.2] 27)).alloc (.cells #[] 22)).heap.size := hgr.size
    have hN : ∀ g, (((w.alloc (Obj.cells p.cells 24)).alloc (Obj.cells #[.int .u64 y.1, .int .u64 y.2] 27)).alloc (.cells #[] 22)).heap.size ≤ g → w.heap.size ≤ g := fun g hg => Nat.le_trans hb1 hg
    have hbytes : (([] : List Int).length + l.length) * 8 ≤ 140737488355328 := by simp; omega
    go_wp2_with (at_builtin; refine wpList_apps rfl (.tmp 16) (.tmp 17) rfl elem_u64 hacc rfl rfl hsl (fun _ _ h => h) hbytes hb1 hN ?_)
    intro v' w0 hacc0 hgrow hmv
    have HB0 : Hid (Bk w0 w.heap.size 24 p.cells) := Lib.hid ((((Bk.new w _ _).alloc _).alloc _).grown hgrow (by simp [Value.ownBlock]; omega))
    have HB1 : Hid (Bk w0 (w.heap.size + 1) 27 #[.int .u64 y.1, .int .u64 y.2]) := Lib.hid ((Bk.alloc (by have := Bk.new (w.alloc (Obj.cells p.cells 24)) 27 #[.int .u64 y.1, .int .u64 y.2]; rwa [World.size_alloc] at this) _).grown hgrow (by simp [Value.ownBlock]))
    have HGG : Hid (w.grownBy w0 none) := Lib.hid (grown_up hgr hgrow (by simp [Value.ownBlock]; omega))
    have HIN0 : Hid (Sl encU (fun _ => True) w0 v' l) := Lib.hid (by have := hacc0.sl.more (Y := fun _ => True) (fun _ _ _ => trivial); simpa using this)
    have HL0 : Hid (Sl encU (fun _ => True) w0 (.slice A l.length c) l) := Lib.hid (H.out.kept HGG.out)
    have hp0 := HB0.out.prule
    have hy0 := HB1.out.rule
    have hs0 := HB1.out.lt
    clear hacc0 hgrow hmv hacc hgr hsl hb1 hN hbytes
    obtain ⟨D, d, rfl, hd1, hd2⟩ := HIN0.out.form
    go_wp2_with fail
    have HG0 : Hid (w0.grownBy w0.drew none) := Lib.hid (grownBy_drewN (World.grownBy.refl w0 none) 1)
    go_region_held3 (fun w' => (∀ o, w'.cell? ⟨w.heap.size, o, none⟩ = (#[.int .u64 p.P, .int .u64 p.Q, .int .u64 p.G, .int .u64 p.H, .int .i64 p.Nodes, .int .i64 p.N, .int .i64 p.T, .int .i64 p.K, .int .i64 p.D, .int .i64 p.R, .int .i64 p.M, .int .i64 p.X] : Array Value)[o]?) ∧ (∀ o, w'.cell? ⟨w.heap.size + 1, o, none⟩ = (#[.int .u64 y.1, .int .u64 y.2] : Array Value)[o]?)) (first | (exact ⟨by assumption, by assumption⟩) | go_keep)
      (first
      | (go_at_call 4; (with_reducible refine (is_any p x _ HP.out HX.out).mono ?_); rintro e' w10 ⟨rfl, hg⟩; have HG1 := Lib.hid (HG0.out.trans hg); have hp10 := (HB0.out.grown HG1.out (by simp)).prule; have hy10 := (HB1.out.grown HG1.out (by simp)).rule; clear hg)
      | (go_at_call 5; (with_reducible refine (ris_any p x _ HP.out HX.out).mono ?_); rintro e' w11 ⟨rfl, hg⟩; have HG2 := Lib.hid (HG1.out.trans hg); have hp11 := (HB0.out.grown HG2.out (by simp)).prule; have hy11 := (HB1.out.grown HG2.out (by simp)).rule; clear hg)
      | (go_at_call 6; (with_reducible refine (times_any p _ l (fun _ => True) _ (HIN0.out.kept HG2.out)).mono ?_); rintro e' w12 ⟨rfl, hg⟩; have HG3 := Lib.hid (HG2.out.trans hg); have hp12 := (HB0.out.grown HG3.out (by simp)).prule; have hy12 := (HB1.out.grown HG3.out (by simp)).rule; clear hg)
      | (go_at_call 7; (with_reducible refine (rtimes_any p _ l (fun _ => True) _ HP.out (HL0.out.kept HG3.out)).mono ?_); rintro e' w13 ⟨rfl, hg⟩; have HG4 := Lib.hid (HG3.out.trans hg); have hp13 := (HB0.out.grown HG4.out (by simp)).prule; have hy13 := (HB1.out.grown HG4.out (by simp)).rule; clear hg)
      | (go_at_call 8; (with_reducible refine (power_any p x e _ HX.out HE.out).mono ?_); rintro e' w14 ⟨rfl, hg⟩; have HG5 := Lib.hid (HG4.out.trans hg); have hp14 := (HB0.out.grown HG5.out (by simp)).prule; have hy14 := (HB1.out.grown HG5.out (by simp)).rule; clear hg)
      | (go_at_call 9; (with_reducible refine (rpower_any p HP.out x e _ HX.out HE.out).mono ?_); rintro e' w15 ⟨rfl, hg⟩; have HG6 := Lib.hid (HG5.out.trans hg); have hp15 := (HB0.out.grown HG6.out (by simp)).prule; have hy15 := (HB1.out.grown HG6.out (by simp)).rule; clear hg)
      | (go_at_call 10; (with_reducible refine (commit_any p y _ HP.out H1.out H2.out).mono ?_); rintro e' w16 ⟨rfl, hg⟩; have HG7 := Lib.hid (HG6.out.trans hg); have hp16 := (HB0.out.grown HG7.out (by simp)).prule; have hy16 := (HB1.out.grown HG7.out (by simp)).rule; clear hg)
      | (go_at_call 11; (with_reducible refine (rcommit_any p y _ HP.out H1.out H2.out).mono ?_); rintro e' w17 ⟨rfl, hg⟩; have HG8 := Lib.hid (HG7.out.trans hg); have hp17 := (HB0.out.grown HG8.out (by simp)).prule; have hy17 := (HB1.out.grown HG8.out (by simp)).rule; clear hg)
      | (go_at_call 12; (with_reducible refine (at_all p _ l e (fun _ => True) _ (HIN0.out.kept HG8.out) HE.out).mono ?_); rintro e' w18 ⟨rfl, hg⟩; have HG9 := Lib.hid (HG8.out.trans hg); have hp18 := (HB0.out.grown HG9.out (by simp)).prule; have hy18 := (HB1.out.grown HG9.out (by simp)).rule; clear hg)
      | (go_at_call 13; (with_reducible refine (rat_all p _ l e (fun _ => True) _ HP.out (HL0.out.kept HG9.out) HE.out).mono ?_); rintro e' w19 ⟨rfl, hg⟩; have HG10 := Lib.hid (HG9.out.trans hg); have hp19 := (HB0.out.grown HG10.out (by simp)).prule; have hy19 := (HB1.out.grown HG10.out (by simp)).rule; clear hg))
    go_wp2_with fail
    have HEND : Hid (w.grownBy w19 none ∧ Sl encU (fun _ => True) w19 (.slice D l.length d) l ∧ Sl encU (fun _ => True) w19 (.slice A l.length c) l) := Lib.hid ⟨HGG.out.trans HG10.out, HIN0.out.kept HG10.out, HL0.out.kept HG10.out⟩
    clear hp0 hy0 hs0
    go_loopg [12] l.length (fun g si wx => ∃ j : Nat, j + g = l.length ∧ si = .int .i64 j ∧ Hid (w.grownBy wx none ∧ Sl encU (fun _ => True) wx (.slice D l.length d) l ∧ Sl encU (fun _ => True) wx (.slice A l.length c) l))
    case atStart => exact ⟨0, by omega, rfl, HEND⟩
    case round =>
      obtain ⟨j, hj, rfl, HX⟩ := hrel
      cases gk with
      | zero =>
        obtain rfl : j = l.length := by omega
        have HGE := Lib.hid HX.out.1
        clear HX HEND
        go_wp2
        go_ret
        exact ⟨rfl, HGE.out⟩
      | succ k =>
        have hjn : (j : Int) < (l.length : Int) := by omega
        have hjN : j < l.length := by omega
        obtain ⟨g, o, c', e1, _, _, hc, hu⟩ := HX.out.2.1.atU hjN
        obtain ⟨g', o', c'', e2, _, _, hc', _⟩ := HX.out.2.2.atU hjN
        injection e1 with e11 e12 e13
        injection e2 with e21 e22 e23
        subst e11 e13 e21 e23
        have HX3 : Hid (w.grownBy wr none ∧ Sl encU (fun _ => True) wr (.slice (some ⟨g, o, none⟩) l.length d) l ∧ Sl encU (fun _ => True) wr (.slice (some ⟨g', o', none⟩) l.length c) l) := HX
        generalize l[j] = z at *
        clear HX hu e12 e22 HEND
        go_wp2_with fail
        go_quiet (fail)
        go_wp2
        go_roundg k
        case measure => omega
        case rel => exact ⟨j + 1, by omega, by go_num, Lib.hid ⟨grownBy_drewN HX3.out.1 _, HX3.out.2.1.kept (grownBy_drewN (World.grownBy.refl wr none) _), HX3.out.2.2.kept (grownBy_drewN (World.grownBy.refl wr none) _)⟩⟩
end Go.Proofs.Ytnjbigbiclfcoaa
