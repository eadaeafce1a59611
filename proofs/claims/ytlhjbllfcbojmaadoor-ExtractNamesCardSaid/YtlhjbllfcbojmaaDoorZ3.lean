/- extract.reduced, Power, Knows, walked (printed by mkt.py). Powers and commitments modulo P: plain arithmetic. extract.Knows and holders.of, walked (printed by mkt.py). extract.Off: holders as data; the table (printed by mkt.py). share.come over pairs, walked (printed by mk_shrg.py). share.Sum, walked (printed by mk_shrh.py). A region that draws its order, in which some operations (the late ones: calls, appends, stores) turn what lay there, in whichever order they come (printed by mk_free.py from XLate). A drawn region that calls, lays a block, and stores into it what the call told (d, e := f(..) of a struct that lies in memory): the call and the block come in either order. The same steps, where the region does not draw its order. fixed.Int, walked. Dealt as data. share.Coms, walked (printed by mk_shrk.py). slices.Chunk, an iterator over pieces of a list, walked. A region that draws its order, in which some operations, one behind the other (the late ones: appends, stores), turn what lay there (printed by mk_late.py from XMono). share.Model, walked. The document's comparisons, of what is the same, walked. The document's comparison of models, of what is the same, walked. Weights, sums and commitments reckoned: what Lean can decide. The plain law of weights: places apart, rows turned about, one place alone. No program in sight but the data's words. -/
import Derived.Test.YtlhjbllfcbojmaaDoorZ2
import Derived.WalkSpells
import Derived.Deep.QuietTactic
import Derived.BigQuiet
import Derived.Deep.LoopGhost
namespace Go.Proofs.YtlhjbllfcbojmaaDoor
open Go Go.RowKit Go.Shelf

theorem grownSetE (w : World) (g o : Nat) (v : Value) : w.grownBy (w.setCell ⟨g, o, none⟩ v) (some g) := ⟨rfl, rfl, rfl, by simp [World.setCell], fun k _ hne => Below.heap_setCell w ⟨g, o, none⟩ v k (fun e => hne (by rw [e]))⟩
def redI (p : Par) (x : Int × Int) : Int × Int := (mulI x.1 1 p.Q, mulI x.2 1 p.Q)
theorem redI_U64 (p : Par) (x : Int × Int) : U64 (redI p x).1 ∧ U64 (redI p x).2 := ⟨mulI_U64 _ _ _, mulI_U64 _ _ _⟩
open Classical in
/-- What two pairs tell. -/
noncomputable def xpow (p : Par) (x y : Int × Int) : Int × Bool :=
  if commitI p x = commitI p y ∧ redI p x ≠ redI p y ∧ HasInv (subI y.2 x.2 p.Q) p.Q then (mulI (subI x.1 y.1 p.Q) (invI (subI y.2 x.2 p.Q) p.Q) p.Q, true) else (0, false)
theorem inv_gr (a m : Int) (w : World) (ha : U64 a) (hm : mayB m = true) :
    Calls Tryd.prog 19 #[.int .u64 a, .int .u64 m] w fun e w' => e = .returned (invRes a m) ∧ w.grownBy w' none :=
  (inv_may a m w ha hm).mono fun _ _ ⟨he, n, hn⟩ => ⟨he, by rw [hn]; exact grownBy_drewN (World.grownBy.refl w none) n⟩
theorem sub_gr' (a b m : Int) (w : World) (ha : U64 a) (hb : U64 b) :
    Calls Tryd.prog 20 #[.int .u64 a, .int .u64 b, .int .u64 m] w fun e w' => e = .returned (.int .u64 (subI a b m)) ∧ w.grownBy w' none :=
  (sub_any a b m w ha hb).mono fun _ _ ⟨he, n, hn⟩ => ⟨he, by rw [hn]; exact grownBy_drewN (World.grownBy.refl w none) n⟩
theorem invI_U64' {a q : Int} (hq : mayB q = true) (h : HasInv a q) : U64 (invI a q) := by
  obtain ⟨h0, h1, _⟩ := invI_spec h
  simp [mayB] at hq
  exact ⟨h0, by omega⟩
set_option maxRecDepth 100000 in
set_option maxHeartbeats 1000000 in
theorem red_any (p : Par) (x : Int × Int) (w : World) (hx : U64 x.1 ∧ U64 x.2) :
    Calls Tryd.prog 18 #[p.v, .agg #[.int .u64 x.1, .int .u64 x.2]] w fun e w' => e = .returned (.agg #[.int .u64 (redI p x).1, .int .u64 (redI p x).2]) ∧ w.grownBy w' none := by
  obtain ⟨W, hW⟩ : ∃ W, W = ((w.alloc (.cells p.cells 24)).alloc (.cells #[.int .u64 x.1, .int .u64 x.2] 26)).alloc (.cells #[.int .u64 0, .int .u64 0] 26) := ⟨_, rfl⟩
  have HP : Hid (Bk W w.heap.size 24 p.cells) := Lib.hid (by rw [hW]; exact ((Bk.new w _ _).alloc _).alloc _)
  have HX : Hid (Bk W (w.heap.size + 1) 26 #[.int .u64 x.1, .int .u64 x.2]) := Lib.hid (by
    rw [hW]
    have h := (Bk.new (w.alloc (.cells p.cells 24)) 26 #[.int .u64 x.1, .int .u64 x.2]).alloc (.cells #[.int .u64 0, .int .u64 0] 26)
    rw [World.size_alloc] at h
    exact h)
  have HR : Hid (Bk W (w.heap.size + 1 + 1) 26 #[.int .u64 0, .int .u64 0]) := Lib.hid (by
    rw [hW]
    have h := Bk.new ((w.alloc (.cells p.cells 24)).alloc (.cells #[.int .u64 x.1, .int .u64 x.2] 26)) 26 #[.int .u64 0, .int .u64 0]
    rw [World.size_alloc, World.size_alloc] at h
    exact h)
  have HG : Hid (w.grownBy W none) := Lib.hid (by rw [hW]; exact (World.grownBy_alloc _ _ none).trans ((World.grownBy_alloc _ _ none).trans (World.grownBy_alloc _ _ none)))
  have HDR : Hid (W.grownBy W.drew none) := Lib.hid (grown_drewN' W 1)
  have HU := Lib.hid hx
  clear hx
  go_enter Tryd.func18, Tryd.ntmps18
  go_wp2_with fail
  rw [← hW]
  clear hW
  refine wp_region_mono 11 (by kernel_rfl) (by kernel_rfl) ?_
  -- op 0 (slot 5): fieldAddr
  refine MonoR.step (Pv.eq (.pointer (some ⟨w.heap.size + 1, 0, none⟩))) [] (by kernel_rfl) (fun w' hw' => ?_) ?_
  · refine ask_do rfl fun K hK => ?_
    go_simp
    exact hK _ _ rfl rfl (World.grownBy.refl _ none)
  -- op 1 (slot 6): load
  refine MonoR.step (Pv.eq (.int .u64 x.1)) [(0, 5)] (by kernel_rfl) (fun w' hw' => ?_) ?_
  · intro x5 h5
    have e5 : x5 = .pointer (some ⟨w.heap.size + 1, 0, none⟩) := h5
    clear h5
    subst e5
    refine ask_do rfl fun K hK => ?_
    have hq := (HP.out.grown (HDR.out.trans hw') (by simp)).prule
    have hx0 := (HX.out.grown (HDR.out.trans hw') (by simp)).cell
    have hx0a := hx0 0
    have hx0b := hx0 1
    simp at hx0a hx0b
    clear hx0
    go_simp
    exact hK _ _ rfl rfl (World.grownBy.refl _ none)
  -- op 2 (slot 7): fieldAddr
  refine MonoR.step (Pv.eq (.pointer (some ⟨w.heap.size, 1, none⟩))) [] (by kernel_rfl) (fun w' hw' => ?_) ?_
  · refine ask_do rfl fun K hK => ?_
    go_simp
    exact hK _ _ rfl rfl (World.grownBy.refl _ none)
  -- op 3 (slot 8): load
  refine MonoR.step (Pv.eq (.int .u64 p.Q)) [(2, 7)] (by kernel_rfl) (fun w' hw' => ?_) ?_
  · intro x7 h7
    have e7 : x7 = .pointer (some ⟨w.heap.size, 1, none⟩) := h7
    clear h7
    subst e7
    refine ask_do rfl fun K hK => ?_
    have hq := (HP.out.grown (HDR.out.trans hw') (by simp)).prule
    have hx0 := (HX.out.grown (HDR.out.trans hw') (by simp)).cell
    have hx0a := hx0 0
    have hx0b := hx0 1
    simp at hx0a hx0b
    clear hx0
    go_simp
    exact hK _ _ rfl rfl (World.grownBy.refl _ none)
  -- op 4 (slot 9): call
  refine MonoR.step (Pv.eq (.int .u64 (mulI x.1 1 p.Q))) [(1, 6), (3, 8)] (by kernel_rfl) (fun w' hw' => ?_) ?_
  · intro x6 h6
    intro x8 h8
    have e6 : x6 = .int .u64 x.1 := h6
    clear h6
    subst e6
    have e8 : x8 = .int .u64 p.Q := h8
    clear h8
    subst e8
    refine ask_do rfl fun K hK => ?_
    go_simp
    refine (mul_gr x.1 1 p.Q w' HU.out.1 ⟨by decide, by decide⟩).mono ?_
    rintro e w3 ⟨rfl, hg⟩
    exact hK _ _ rfl rfl hg
  -- op 5 (slot 10): fieldAddr
  refine MonoR.step (Pv.eq (.pointer (some ⟨w.heap.size + 1, 1, none⟩))) [] (by kernel_rfl) (fun w' hw' => ?_) ?_
  · refine ask_do rfl fun K hK => ?_
    go_simp
    exact hK _ _ rfl rfl (World.grownBy.refl _ none)
  -- op 6 (slot 11): load
  refine MonoR.step (Pv.eq (.int .u64 x.2)) [(5, 10)] (by kernel_rfl) (fun w' hw' => ?_) ?_
  · intro x10 h10
    have e10 : x10 = .pointer (some ⟨w.heap.size + 1, 1, none⟩) := h10
    clear h10
    subst e10
    refine ask_do rfl fun K hK => ?_
    have hq := (HP.out.grown (HDR.out.trans hw') (by simp)).prule
    have hx0 := (HX.out.grown (HDR.out.trans hw') (by simp)).cell
    have hx0a := hx0 0
    have hx0b := hx0 1
    simp at hx0a hx0b
    clear hx0
    go_simp
    exact hK _ _ rfl rfl (World.grownBy.refl _ none)
  -- op 7 (slot 12): fieldAddr
  refine MonoR.step (Pv.eq (.pointer (some ⟨w.heap.size, 1, none⟩))) [] (by kernel_rfl) (fun w' hw' => ?_) ?_
  · refine ask_do rfl fun K hK => ?_
    go_simp
    exact hK _ _ rfl rfl (World.grownBy.refl _ none)
  -- op 8 (slot 13): load
  refine MonoR.step (Pv.eq (.int .u64 p.Q)) [(7, 12)] (by kernel_rfl) (fun w' hw' => ?_) ?_
  · intro x12 h12
    have e12 : x12 = .pointer (some ⟨w.heap.size, 1, none⟩) := h12
    clear h12
    subst e12
    refine ask_do rfl fun K hK => ?_
    have hq := (HP.out.grown (HDR.out.trans hw') (by simp)).prule
    have hx0 := (HX.out.grown (HDR.out.trans hw') (by simp)).cell
    have hx0a := hx0 0
    have hx0b := hx0 1
    simp at hx0a hx0b
    clear hx0
    go_simp
    exact hK _ _ rfl rfl (World.grownBy.refl _ none)
  -- op 9 (slot 14): call
  refine MonoR.step (Pv.eq (.int .u64 (mulI x.2 1 p.Q))) [(6, 11), (8, 13)] (by kernel_rfl) (fun w' hw' => ?_) ?_
  · intro x11 h11
    intro x13 h13
    have e11 : x11 = .int .u64 x.2 := h11
    clear h11
    subst e11
    have e13 : x13 = .int .u64 p.Q := h13
    clear h13
    subst e13
    refine ask_do rfl fun K hK => ?_
    go_simp
    refine (mul_gr x.2 1 p.Q w' HU.out.2 ⟨by decide, by decide⟩).mono ?_
    rintro e w3 ⟨rfl, hg⟩
    exact hK _ _ rfl rfl hg
  -- op 10 (slot 15): build
  refine MonoR.step (Pv.eq (.agg #[.int .u64 (mulI x.1 1 p.Q), .int .u64 (mulI x.2 1 p.Q)])) [(4, 9), (9, 14)] (by kernel_rfl) (fun w' hw' => ?_) ?_
  · intro x9 h9
    intro x14 h14
    have e9 : x9 = .int .u64 (mulI x.1 1 p.Q) := h9
    clear h9
    subst e9
    have e14 : x14 = .int .u64 (mulI x.2 1 p.Q) := h14
    clear h14
    subst e14
    refine ask_do rfl fun K hK => ?_
    go_simp
    exact hK _ _ rfl rfl (World.grownBy.refl _ none)
  
  intro w3 hw3
  intro y0 e0 y1 e1 y2 e2 y3 e3 y4 e4 y5 e5 y6 e6 y7 e7 y8 e8 y9 e9 y10 e10
  have e10 : y10 = .agg #[.int .u64 (mulI x.1 1 p.Q), .int .u64 (mulI x.2 1 p.Q)] := e10
  subst e10
  clear e0 e1 e2 e3 e4 e5 e6 e7 e8 e9
  simp only [Act.put, List.setIfInBounds_toArray, List.set_cons_zero, List.set_cons_succ]
  have hr3 := HR.out.grown (HDR.out.trans hw3) (by simp)
  have hc0 := hr3.cell 0
  have hc1 := hr3.cell 1
  have hf0 := hr3.free 0
  have hf1 := hr3.free 1
  simp at hc0 hc1
  have hk5 := (hr3.set 0 (.int .u64 (mulI x.1 1 p.Q))).set 1 (.int .u64 (mulI x.2 1 p.Q))
  have hk0 := hk5.cell 0
  have hk1 := hk5.cell 1
  simp at hk0 hk1
  have HF : Hid (w.grownBy ((w3.setCell ⟨w.heap.size + 1 + 1, 0, none⟩ (.int .u64 (mulI x.1 1 p.Q))).setCell ⟨w.heap.size + 1 + 1, 1, none⟩ (.int .u64 (mulI x.2 1 p.Q))) none) := Lib.hid (((HG.out.trans (HDR.out.trans hw3)).andThen (grownSetE w3 (w.heap.size + 1 + 1) 0 _) (fun j e => .inl (by injection e with e; omega))).andThen (grownSetE _ (w.heap.size + 1 + 1) 1 _) (fun j e => .inl (by injection e with e; omega)))
  clear hw3 hr3 hk5
  refine wpList_plain rfl fun K hK => ?_
  go_simp
  refine hK _ _ (wpList_nil ?_)
  go_wp2_with fail
  refine bodyPost_ret (v := .agg #[.int .u64 (mulI x.1 1 p.Q), .int .u64 (mulI x.2 1 p.Q)]) (by simp [results, Tryd.results18, go_sem, *]) rfl ⟨rfl, HF.out⟩
set_option maxRecDepth 100000 in
set_option maxHeartbeats 2000000 in
theorem xpower_any (p : Par) (x y : Int × Int) (w : World) (hp : p.ok) (hx : U64 x.1 ∧ U64 x.2) (hy : U64 y.1 ∧ U64 y.2) :
    Calls Tryd.prog 6 #[p.v, .agg #[.int .u64 x.1, .int .u64 x.2], .agg #[.int .u64 y.1, .int .u64 y.2]] w fun e w' => e = .returned (.tuple #[.int .u64 (xpow p x y).1, .bool (xpow p x y).2]) ∧ w.grownBy w' none := by
  obtain ⟨W, hW⟩ : ∃ W, W = ((w.alloc (.cells p.cells 24)).alloc (.cells #[.int .u64 x.1, .int .u64 x.2] 26)).alloc (.cells #[.int .u64 y.1, .int .u64 y.2] 26) := ⟨_, rfl⟩
  have HP : Hid (Bk W w.heap.size 24 p.cells) := Lib.hid (by rw [hW]; exact ((Bk.new w _ _).alloc _).alloc _)
  have HX : Hid (Bk W (w.heap.size + 1) 26 #[.int .u64 x.1, .int .u64 x.2]) := Lib.hid (by
    rw [hW]
    have h := (Bk.new (w.alloc (.cells p.cells 24)) 26 #[.int .u64 x.1, .int .u64 x.2]).alloc (.cells #[.int .u64 y.1, .int .u64 y.2] 26)
    rw [World.size_alloc] at h
    exact h)
  have HY : Hid (Bk W (w.heap.size + 1 + 1) 26 #[.int .u64 y.1, .int .u64 y.2]) := Lib.hid (by
    rw [hW]
    have h := Bk.new ((w.alloc (.cells p.cells 24)).alloc (.cells #[.int .u64 x.1, .int .u64 x.2] 26)) 26 #[.int .u64 y.1, .int .u64 y.2]
    rw [World.size_alloc, World.size_alloc] at h
    exact h)
  have HG : Hid (w.grownBy W.drew none) := Lib.hid (by rw [hW]; exact ((World.grownBy_alloc _ _ none).trans ((World.grownBy_alloc _ _ none).trans (World.grownBy_alloc _ _ none))).trans (grown_drewN' _ 1))
  have HDR : Hid (W.grownBy W.drew none) := Lib.hid (grown_drewN' W 1)
  have HU := Lib.hid (And.intro hp (And.intro hx hy))
  clear hx hy hp
  obtain ⟨cx, hcx⟩ : ∃ z, z = commitI p x := ⟨_, rfl⟩
  obtain ⟨cy, hcy⟩ : ∃ z, z = commitI p y := ⟨_, rfl⟩
  have HCX := Lib.hid hcx
  have HCY := Lib.hid hcy
  clear hcx hcy
  have HLD : Hid (∀ V, W.drew.grownBy V none → (∀ o, V.cell? ⟨w.heap.size, o, none⟩ = (#[.int .u64 p.P, .int .u64 p.Q, .int .u64 p.G, .int .u64 p.H, .int .i64 p.Nodes, .int .i64 p.N, .int .i64 p.T, .int .i64 p.K, .int .i64 p.D, .int .i64 p.R, .int .i64 p.M, .int .i64 p.X] : Array Value)[o]?) ∧ V.cell? ⟨w.heap.size + 1, 0, none⟩ = some (.int .u64 x.1) ∧ V.cell? ⟨w.heap.size + 1, 1, none⟩ = some (.int .u64 x.2) ∧ V.cell? ⟨w.heap.size + 1 + 1, 0, none⟩ = some (.int .u64 y.1) ∧ V.cell? ⟨w.heap.size + 1 + 1, 1, none⟩ = some (.int .u64 y.2)) := Lib.hid (fun V hV => ⟨(HP.out.grown (HDR.out.trans hV) (by simp)).prule, (HX.out.grown (HDR.out.trans hV) (by simp)).cell 0, (HX.out.grown (HDR.out.trans hV) (by simp)).cell 1, (HY.out.grown (HDR.out.trans hV) (by simp)).cell 0, (HY.out.grown (HDR.out.trans hV) (by simp)).cell 1⟩)
  obtain ⟨rs, hrs⟩ : ∃ z, z = xpow p x y := ⟨_, rfl⟩
  have HRS := Lib.hid hrs
  rw [← hrs]
  clear hrs
  by_cases hc : cx = cy
  · have hne : (cx != cy) = false := by simp [hc]
    obtain ⟨r1, hr1⟩ : ∃ z, z = redI p x := ⟨_, rfl⟩
    obtain ⟨r2, hr2⟩ : ∃ z, z = redI p y := ⟨_, rfl⟩
    have HCC : Hid (commitI p x = commitI p y) := Lib.hid (by rw [← HCX.out, ← HCY.out]; exact hc)
    have HR1 := Lib.hid hr1
    have HR2 := Lib.hid hr2
    obtain ⟨B2, hB2⟩ : ∃ z, z = decide (r1 = r2) := ⟨_, rfl⟩
    have HB2 := Lib.hid hB2
    clear hc hr1 hr2 hB2
    go_enter Tryd.func6, Tryd.ntmps6
    go_wp2_with fail
    rw [← hW]
    clear hW
    refine wp_region_mono 16 (by kernel_rfl) (by kernel_rfl) ?_
    -- op 0 (slot 10): load
    refine MonoR.step (Pv.eq (p.v)) [] (by kernel_rfl) (fun w' hw' => ?_) ?_
    · refine ask_do rfl fun K hK => ?_
      have qq := HLD.out w' (hw')
      have q0 := qq.1
      have q1 := qq.2.1
      have q2 := qq.2.2.1
      have q3 := qq.2.2.2.1
      have q4 := qq.2.2.2.2
      clear qq
      go_simp
      exact hK _ _ rfl rfl (World.grownBy.refl _ none)
    -- op 1 (slot 11): load
    refine MonoR.step (Pv.eq (.agg #[.int .u64 x.1, .int .u64 x.2])) [] (by kernel_rfl) (fun w' hw' => ?_) ?_
    · refine ask_do rfl fun K hK => ?_
      have qq := HLD.out w' (hw')
      have q0 := qq.1
      have q1 := qq.2.1
      have q2 := qq.2.2.1
      have q3 := qq.2.2.2.1
      have q4 := qq.2.2.2.2
      clear qq
      go_simp
      exact hK _ _ rfl rfl (World.grownBy.refl _ none)
    -- op 2 (slot 12): call
    refine MonoR.step (Pv.eq (.int .u64 cx)) [(0, 10), (1, 11)] (by kernel_rfl) (fun w' hw' => ?_) ?_
    · intro x10 h10
      intro x11 h11
      have e10 : x10 = p.v := h10
      clear h10
      subst e10
      have e11 : x11 = .agg #[.int .u64 x.1, .int .u64 x.2] := h11
      clear h11
      subst e11
      refine ask_do rfl fun K hK => ?_
      go_simp
      have hh := commit_any p x w' HU.out.1 HU.out.2.1.1 HU.out.2.1.2
      rw [← HCX.out] at hh
      refine hh.mono ?_
      rintro e w3 ⟨rfl, hg⟩
      exact hK _ _ rfl rfl hg
    -- op 3 (slot 13): load
    refine MonoR.step (Pv.eq (p.v)) [] (by kernel_rfl) (fun w' hw' => ?_) ?_
    · refine ask_do rfl fun K hK => ?_
      have qq := HLD.out w' (hw')
      have q0 := qq.1
      have q1 := qq.2.1
      have q2 := qq.2.2.1
      have q3 := qq.2.2.2.1
      have q4 := qq.2.2.2.2
      clear qq
      go_simp
      exact hK _ _ rfl rfl (World.grownBy.refl _ none)
    -- op 4 (slot 14): load
    refine MonoR.step (Pv.eq (.agg #[.int .u64 y.1, .int .u64 y.2])) [] (by kernel_rfl) (fun w' hw' => ?_) ?_
    · refine ask_do rfl fun K hK => ?_
      have qq := HLD.out w' (hw')
      have q0 := qq.1
      have q1 := qq.2.1
      have q2 := qq.2.2.1
      have q3 := qq.2.2.2.1
      have q4 := qq.2.2.2.2
      clear qq
      go_simp
      exact hK _ _ rfl rfl (World.grownBy.refl _ none)
    -- op 5 (slot 15): call
    refine MonoR.step (Pv.eq (.int .u64 cy)) [(3, 13), (4, 14)] (by kernel_rfl) (fun w' hw' => ?_) ?_
    · intro x13 h13
      intro x14 h14
      have e13 : x13 = p.v := h13
      clear h13
      subst e13
      have e14 : x14 = .agg #[.int .u64 y.1, .int .u64 y.2] := h14
      clear h14
      subst e14
      refine ask_do rfl fun K hK => ?_
      go_simp
      have hh := commit_any p y w' HU.out.1 HU.out.2.2.1 HU.out.2.2.2
      rw [← HCY.out] at hh
      refine hh.mono ?_
      rintro e w3 ⟨rfl, hg⟩
      exact hK _ _ rfl rfl hg
    -- op 6 (slot 16): binOp
    refine MonoR.step (Pv.eq (.bool false)) [(2, 12), (5, 15)] (by kernel_rfl) (fun w' hw' => ?_) ?_
    · intro x12 h12
      intro x15 h15
      have e12 : x12 = .int .u64 cx := h12
      clear h12
      subst e12
      have e15 : x15 = .int .u64 cy := h15
      clear h15
      subst e15
      refine ask_do rfl fun K hK => ?_
      go_simp
      exact hK _ _ rfl rfl (World.grownBy.refl _ none)
    -- op 7 (slot 17): move
    refine MonoR.step (Pv.eq (.bool false)) [(6, 16)] (by kernel_rfl) (fun w' hw' => ?_) ?_
    · intro x16 h16
      have e16 : x16 = .bool false := h16
      clear h16
      subst e16
      refine ask_do rfl fun K hK => ?_
      go_simp
      exact hK _ _ rfl rfl (World.grownBy.refl _ none)
    -- op 8 (slot 18): load [(7, 'false')]
    refine MonoR.step (Pv.eq (p.v)) [(7, 17)] (by kernel_rfl) (fun w' hw' => ?_) ?_
    · intro x17 h17
      have e17 : x17 = .bool false := h17
      clear h17
      subst e17
      refine ask_do (by kernel_rfl) fun K hK => ?_
      have qq := HLD.out w' (hw')
      have q0 := qq.1
      have q1 := qq.2.1
      have q2 := qq.2.2.1
      have q3 := qq.2.2.2.1
      have q4 := qq.2.2.2.2
      clear qq
      go_simp
      exact hK _ _ rfl rfl (World.grownBy.refl _ none)
    -- op 9 (slot 19): load [(7, 'false')]
    refine MonoR.step (Pv.eq (.agg #[.int .u64 x.1, .int .u64 x.2])) [(7, 17)] (by kernel_rfl) (fun w' hw' => ?_) ?_
    · intro x17 h17
      have e17 : x17 = .bool false := h17
      clear h17
      subst e17
      refine ask_do (by kernel_rfl) fun K hK => ?_
      have qq := HLD.out w' (hw')
      have q0 := qq.1
      have q1 := qq.2.1
      have q2 := qq.2.2.1
      have q3 := qq.2.2.2.1
      have q4 := qq.2.2.2.2
      clear qq
      go_simp
      exact hK _ _ rfl rfl (World.grownBy.refl _ none)
    -- op 10 (slot 20): call [(7, 'false')]
    refine MonoR.step (Pv.eq (.agg #[.int .u64 r1.1, .int .u64 r1.2])) [(7, 17), (8, 18), (9, 19)] (by kernel_rfl) (fun w' hw' => ?_) ?_
    · intro x17 h17
      intro x18 h18
      intro x19 h19
      have e17 : x17 = .bool false := h17
      clear h17
      subst e17
      have e18 : x18 = p.v := h18
      clear h18
      subst e18
      have e19 : x19 = .agg #[.int .u64 x.1, .int .u64 x.2] := h19
      clear h19
      subst e19
      refine ask_do (by kernel_rfl) fun K hK => ?_
      go_simp
      have hh := red_any p x w' HU.out.2.1
      rw [← HR1.out] at hh
      refine hh.mono ?_
      rintro e w3 ⟨rfl, hg⟩
      exact hK _ _ rfl rfl hg
    -- op 11 (slot 21): load [(7, 'false')]
    refine MonoR.step (Pv.eq (p.v)) [(7, 17)] (by kernel_rfl) (fun w' hw' => ?_) ?_
    · intro x17 h17
      have e17 : x17 = .bool false := h17
      clear h17
      subst e17
      refine ask_do (by kernel_rfl) fun K hK => ?_
      have qq := HLD.out w' (hw')
      have q0 := qq.1
      have q1 := qq.2.1
      have q2 := qq.2.2.1
      have q3 := qq.2.2.2.1
      have q4 := qq.2.2.2.2
      clear qq
      go_simp
      exact hK _ _ rfl rfl (World.grownBy.refl _ none)
    -- op 12 (slot 22): load [(7, 'false')]
    refine MonoR.step (Pv.eq (.agg #[.int .u64 y.1, .int .u64 y.2])) [(7, 17)] (by kernel_rfl) (fun w' hw' => ?_) ?_
    · intro x17 h17
      have e17 : x17 = .bool false := h17
      clear h17
      subst e17
      refine ask_do (by kernel_rfl) fun K hK => ?_
      have qq := HLD.out w' (hw')
      have q0 := qq.1
      have q1 := qq.2.1
      have q2 := qq.2.2.1
      have q3 := qq.2.2.2.1
      have q4 := qq.2.2.2.2
      clear qq
      go_simp
      exact hK _ _ rfl rfl (World.grownBy.refl _ none)
    -- op 13 (slot 23): call [(7, 'false')]
    refine MonoR.step (Pv.eq (.agg #[.int .u64 r2.1, .int .u64 r2.2])) [(7, 17), (11, 21), (12, 22)] (by kernel_rfl) (fun w' hw' => ?_) ?_
    · intro x17 h17
      intro x21 h21
      intro x22 h22
      have e17 : x17 = .bool false := h17
      clear h17
      subst e17
      have e21 : x21 = p.v := h21
      clear h21
      subst e21
      have e22 : x22 = .agg #[.int .u64 y.1, .int .u64 y.2] := h22
      clear h22
      subst e22
      refine ask_do (by kernel_rfl) fun K hK => ?_
      go_simp
      have hh := red_any p y w' HU.out.2.2
      rw [← HR2.out] at hh
      refine hh.mono ?_
      rintro e w3 ⟨rfl, hg⟩
      exact hK _ _ rfl rfl hg
    -- op 14 (slot 24): binOp [(7, 'false')]
    refine MonoR.step (Pv.eq (.bool B2)) [(7, 17), (10, 20), (13, 23)] (by kernel_rfl) (fun w' hw' => ?_) ?_
    · intro x17 h17
      intro x20 h20
      intro x23 h23
      have e17 : x17 = .bool false := h17
      clear h17
      subst e17
      have e20 : x20 = .agg #[.int .u64 r1.1, .int .u64 r1.2] := h20
      clear h20
      subst e20
      have e23 : x23 = .agg #[.int .u64 r2.1, .int .u64 r2.2] := h23
      clear h23
      subst e23
      refine ask_do (by kernel_rfl) fun K hK => ?_
      go_simp
      by_cases h1 : r1.1 = r2.1
      · by_cases h2 : r1.2 = r2.2
        · have e : B2 = true := by rw [HB2.out]; simp [Prod.ext_iff, h1, h2]
          rw [if_pos h1, if_pos h2]
          go_simp
          exact hK _ _ rfl (by show Value.bool _ = Value.bool _; rw [e]) (World.grownBy.refl _ none)
        · have e : B2 = false := by rw [HB2.out]; simp [Prod.ext_iff, h2]
          rw [if_pos h1, if_neg h2]
          go_simp
          exact hK _ _ rfl (by show Value.bool _ = Value.bool _; rw [e]) (World.grownBy.refl _ none)
      · have e : B2 = false := by rw [HB2.out]; simp [Prod.ext_iff, h1]
        rw [if_neg h1]
        go_simp
        exact hK _ _ rfl (by show Value.bool _ = Value.bool _; rw [e]) (World.grownBy.refl _ none)
    -- op 15 (slot 25): pick
    refine MonoR.step (Pv.eq (.bool B2)) [(7, 17), (14, 24)] (by kernel_rfl) (fun w' hw' => ?_) ?_
    · intro x17 h17
      intro x24 h24
      have e17 : x17 = .bool false := h17
      clear h17
      subst e17
      have e24 : x24 = .bool B2 := h24
      clear h24
      subst e24
      refine ask_do rfl fun K hK => ?_
      go_simp
      exact hK _ _ rfl rfl (World.grownBy.refl _ none)
    
    intro w3 hw3
    intro y0 e0 y1 e1 y2 e2 y3 e3 y4 e4 y5 e5 y6 e6 y7 e7 y8 e8 y9 e9 y10 e10 y11 e11 y12 e12 y13 e13 y14 e14 y15 e15
    have e15 : y15 = .bool B2 := e15
    subst e15
    have HW3 := Lib.hid hw3
    clear e0 e1 e2 e3 e4 e5 e6 e7 e8 e9 e10 e11 e12 e13 e14 hw3
    simp only [Act.put, List.setIfInBounds_toArray, List.set_cons_zero, List.set_cons_succ]
    refine wpList_nil ?_
    cases B2 with
    | true =>
      have HV : Hid (xpow p x y = (0, false)) := Lib.hid (by
        have hr : r1 = r2 := of_decide_eq_true HB2.out.symm
        unfold xpow
        rw [if_neg (fun h => h.2.1 (by rw [← HR1.out, ← HR2.out]; exact hr))])
      have HF : Hid (w.grownBy w3 none) := Lib.hid (HG.out.trans HW3.out)
      go_wp2
      go_ret2
      exact ⟨by rw [HRS.out, HV.out]; rfl, HF.out⟩
    | false =>
      have hr : ¬ r1 = r2 := of_decide_eq_false HB2.out.symm
      have hm : mayB p.Q = true := by
        rcases hb : mayB p.Q with _ | _
        · refine absurd ?_ hr
          rw [HR1.out, HR2.out]
          simp [redI, mulI, hb]
        · rfl
      have HM := Lib.hid hm
      have hnr : redI p x ≠ redI p y := by rw [← HR1.out, ← HR2.out]; exact hr
      obtain ⟨d, hdd⟩ : ∃ z, z = subI y.2 x.2 p.Q := ⟨_, rfl⟩
      have HD : Hid (U64 d) := Lib.hid (by rw [hdd]; exact subI_U64 _ _ _)
      obtain ⟨iv, ie, hiv, hxp⟩ : ∃ (iv ie : Int), invRes d p.Q = .tuple #[.int .u64 iv, .int .i64 ie] ∧ U64 iv ∧ ((ie = 0 ∧ xpow p x y = (mulI (subI x.1 y.1 p.Q) iv p.Q, true)) ∨ (¬ ie = 0 ∧ xpow p x y = (0, false))) := by
        by_cases hi : HasInv d p.Q
        · refine ⟨invI d p.Q, 0, by unfold invRes; rw [if_pos hi], invI_U64' hm hi, .inl ⟨rfl, ?_⟩⟩
          unfold xpow
          rw [if_pos ⟨HCC.out, hnr, by rw [← hdd]; exact hi⟩, ← hdd]
        · refine ⟨0, 5, by unfold invRes; rw [if_neg hi], ⟨by decide, by decide⟩, .inr ⟨by decide, ?_⟩⟩
          unfold xpow
          rw [if_neg (fun h => hi (by rw [hdd]; exact h.2.2))]
      have HIV := Lib.hid hiv
      have HXP := Lib.hid hxp
      have HDD := Lib.hid hdd
      clear hr hm hnr hiv hxp hne hdd
      go_upto_region 3 with (fail)
      have HG3 : Hid (w.grownBy w3.drew none) := Lib.hid (HG.out.trans (HW3.out.trans (grown_drewN' w3 1)))
      have HW3d : Hid (W.drew.grownBy w3.drew none) := Lib.hid (HW3.out.trans (grown_drewN' w3 1))
      refine wp_region_mono 15 (by kernel_rfl) (by kernel_rfl) ?_
      -- op 0 (slot 27): fieldAddr
      refine MonoR.step (Pv.eq (.pointer (some ⟨w.heap.size + 1 + 1, 1, none⟩))) [] (by kernel_rfl) (fun w' hw' => ?_) ?_
      · refine ask_do rfl fun K hK => ?_
        go_simp
        exact hK _ _ rfl rfl (World.grownBy.refl _ none)
      -- op 1 (slot 28): load
      refine MonoR.step (Pv.eq (.int .u64 y.2)) [(0, 27)] (by kernel_rfl) (fun w' hw' => ?_) ?_
      · intro x27 h27
        have e27 : x27 = .pointer (some ⟨w.heap.size + 1 + 1, 1, none⟩) := h27
        clear h27
        subst e27
        refine ask_do rfl fun K hK => ?_
        have qq := HLD.out w' (HW3d.out.trans hw')
        have q0 := qq.1
        have q1 := qq.2.1
        have q2 := qq.2.2.1
        have q3 := qq.2.2.2.1
        have q4 := qq.2.2.2.2
        clear qq
        go_simp
        exact hK _ _ rfl rfl (World.grownBy.refl _ none)
      -- op 2 (slot 29): fieldAddr
      refine MonoR.step (Pv.eq (.pointer (some ⟨w.heap.size + 1, 1, none⟩))) [] (by kernel_rfl) (fun w' hw' => ?_) ?_
      · refine ask_do rfl fun K hK => ?_
        go_simp
        exact hK _ _ rfl rfl (World.grownBy.refl _ none)
      -- op 3 (slot 30): load
      refine MonoR.step (Pv.eq (.int .u64 x.2)) [(2, 29)] (by kernel_rfl) (fun w' hw' => ?_) ?_
      · intro x29 h29
        have e29 : x29 = .pointer (some ⟨w.heap.size + 1, 1, none⟩) := h29
        clear h29
        subst e29
        refine ask_do rfl fun K hK => ?_
        have qq := HLD.out w' (HW3d.out.trans hw')
        have q0 := qq.1
        have q1 := qq.2.1
        have q2 := qq.2.2.1
        have q3 := qq.2.2.2.1
        have q4 := qq.2.2.2.2
        clear qq
        go_simp
        exact hK _ _ rfl rfl (World.grownBy.refl _ none)
      -- op 4 (slot 31): fieldAddr
      refine MonoR.step (Pv.eq (.pointer (some ⟨w.heap.size, 1, none⟩))) [] (by kernel_rfl) (fun w' hw' => ?_) ?_
      · refine ask_do rfl fun K hK => ?_
        go_simp
        exact hK _ _ rfl rfl (World.grownBy.refl _ none)
      -- op 5 (slot 32): load
      refine MonoR.step (Pv.eq (.int .u64 p.Q)) [(4, 31)] (by kernel_rfl) (fun w' hw' => ?_) ?_
      · intro x31 h31
        have e31 : x31 = .pointer (some ⟨w.heap.size, 1, none⟩) := h31
        clear h31
        subst e31
        refine ask_do rfl fun K hK => ?_
        have qq := HLD.out w' (HW3d.out.trans hw')
        have q0 := qq.1
        have q1 := qq.2.1
        have q2 := qq.2.2.1
        have q3 := qq.2.2.2.1
        have q4 := qq.2.2.2.2
        clear qq
        go_simp
        exact hK _ _ rfl rfl (World.grownBy.refl _ none)
      -- op 6 (slot 33): call
      refine MonoR.step (Pv.eq (.int .u64 d)) [(1, 28), (3, 30), (5, 32)] (by kernel_rfl) (fun w' hw' => ?_) ?_
      · intro x28 h28
        intro x30 h30
        intro x32 h32
        have e28 : x28 = .int .u64 y.2 := h28
        clear h28
        subst e28
        have e30 : x30 = .int .u64 x.2 := h30
        clear h30
        subst e30
        have e32 : x32 = .int .u64 p.Q := h32
        clear h32
        subst e32
        refine ask_do rfl fun K hK => ?_
        go_simp
        have hh := sub_gr' y.2 x.2 p.Q w' HU.out.2.2.2 HU.out.2.1.2
        rw [← HDD.out] at hh
        refine hh.mono ?_
        rintro e w4 ⟨rfl, hg⟩
        exact hK _ _ rfl rfl hg
      -- op 7 (slot 34): fieldAddr
      refine MonoR.step (Pv.eq (.pointer (some ⟨w.heap.size, 1, none⟩))) [] (by kernel_rfl) (fun w' hw' => ?_) ?_
      · refine ask_do rfl fun K hK => ?_
        go_simp
        exact hK _ _ rfl rfl (World.grownBy.refl _ none)
      -- op 8 (slot 35): load
      refine MonoR.step (Pv.eq (.int .u64 p.Q)) [(7, 34)] (by kernel_rfl) (fun w' hw' => ?_) ?_
      · intro x34 h34
        have e34 : x34 = .pointer (some ⟨w.heap.size, 1, none⟩) := h34
        clear h34
        subst e34
        refine ask_do rfl fun K hK => ?_
        have qq := HLD.out w' (HW3d.out.trans hw')
        have q0 := qq.1
        have q1 := qq.2.1
        have q2 := qq.2.2.1
        have q3 := qq.2.2.2.1
        have q4 := qq.2.2.2.2
        clear qq
        go_simp
        exact hK _ _ rfl rfl (World.grownBy.refl _ none)
      -- op 9 (slot 36): call
      refine MonoR.step (Pv.eq (.tuple #[.int .u64 iv, .int .i64 ie])) [(6, 33), (8, 35)] (by kernel_rfl) (fun w' hw' => ?_) ?_
      · intro x33 h33
        intro x35 h35
        have e33 : x33 = .int .u64 d := h33
        clear h33
        subst e33
        have e35 : x35 = .int .u64 p.Q := h35
        clear h35
        subst e35
        refine ask_do rfl fun K hK => ?_
        go_simp
        have hh := inv_gr d p.Q w' HD.out HM.out
        rw [HIV.out] at hh
        refine hh.mono ?_
        rintro e w4 ⟨rfl, hg⟩
        exact hK _ _ rfl rfl hg
      -- op 10 (slot 26): move
      refine MonoR.step (Pv.eq (.tuple #[.int .u64 iv, .int .i64 ie])) [(9, 36)] (by kernel_rfl) (fun w' hw' => ?_) ?_
      · intro x36 h36
        have e36 : x36 = .tuple #[.int .u64 iv, .int .i64 ie] := h36
        clear h36
        subst e36
        refine ask_do rfl fun K hK => ?_
        go_simp
        exact hK _ _ rfl rfl (World.grownBy.refl _ none)
      -- op 11 (slot 37): extract
      refine MonoR.step (Pv.eq (.int .u64 iv)) [(10, 26)] (by kernel_rfl) (fun w' hw' => ?_) ?_
      · intro x26 h26
        have e26 : x26 = .tuple #[.int .u64 iv, .int .i64 ie] := h26
        clear h26
        subst e26
        refine ask_do rfl fun K hK => ?_
        go_simp
        exact hK _ _ rfl rfl (World.grownBy.refl _ none)
      -- op 12 (slot 38): extract
      refine MonoR.step (Pv.eq (.int .i64 ie)) [(10, 26)] (by kernel_rfl) (fun w' hw' => ?_) ?_
      · intro x26 h26
        have e26 : x26 = .tuple #[.int .u64 iv, .int .i64 ie] := h26
        clear h26
        subst e26
        refine ask_do rfl fun K hK => ?_
        go_simp
        exact hK _ _ rfl rfl (World.grownBy.refl _ none)
      -- op 13 (slot 8): assign
      refine MonoR.step (Pv.eq (.int .u64 iv)) [(11, 37)] (by kernel_rfl) (fun w' hw' => ?_) ?_
      · intro x37 h37
        have e37 : x37 = .int .u64 iv := h37
        clear h37
        subst e37
        refine ask_do rfl fun K hK => ?_
        go_simp
        exact hK _ _ rfl rfl (World.grownBy.refl _ none)
      -- op 14 (slot 9): assign
      refine MonoR.step (Pv.eq (.int .i64 ie)) [(12, 38)] (by kernel_rfl) (fun w' hw' => ?_) ?_
      · intro x38 h38
        have e38 : x38 = .int .i64 ie := h38
        clear h38
        subst e38
        refine ask_do rfl fun K hK => ?_
        go_simp
        exact hK _ _ rfl rfl (World.grownBy.refl _ none)
      
      intro w5 hw5
      intro y0 e0 y1 e1 y2 e2 y3 e3 y4 e4 y5 e5 y6 e6 y7 e7 y8 e8 y9 e9 y10 e10 y11 e11 y12 e12 y13 e13 y14 e14
      have e13 : y13 = .int .u64 iv := e13
      have e14 : y14 = .int .i64 ie := e14
      subst e13 e14
      have HW5 := Lib.hid hw5
      clear e0 e1 e2 e3 e4 e5 e6 e7 e8 e9 e10 e11 e12 hw5
      simp only [Act.put, List.setIfInBounds_toArray, List.set_cons_zero, List.set_cons_succ]
      refine wpList_nil ?_
      rcases HXP.out.2 with ⟨h0, hv⟩ | ⟨h0, hv⟩
      · subst h0
        have HV := Lib.hid hv
        clear hv
        go_upto_region 6 with (fail)
        have HG6 : Hid (w.grownBy w5.drew none) := Lib.hid (HG3.out.trans (HW5.out.trans (grown_drewN' w5 1)))
        have HW6 : Hid (W.drew.grownBy w5.drew none) := Lib.hid (HW3d.out.trans (HW5.out.trans (grown_drewN' w5 1)))
        refine wp_region_mono 13 (by kernel_rfl) (by kernel_rfl) ?_
        -- op 0 (slot 41): fieldAddr
        refine MonoR.step (Pv.eq (.pointer (some ⟨w.heap.size + 1, 0, none⟩))) [] (by kernel_rfl) (fun w' hw' => ?_) ?_
        · refine ask_do rfl fun K hK => ?_
          go_simp
          exact hK _ _ rfl rfl (World.grownBy.refl _ none)
        -- op 1 (slot 42): load
        refine MonoR.step (Pv.eq (.int .u64 x.1)) [(0, 41)] (by kernel_rfl) (fun w' hw' => ?_) ?_
        · intro x41 h41
          have e41 : x41 = .pointer (some ⟨w.heap.size + 1, 0, none⟩) := h41
          clear h41
          subst e41
          refine ask_do rfl fun K hK => ?_
          have qq := HLD.out w' (HW6.out.trans hw')
          have q0 := qq.1
          have q1 := qq.2.1
          have q2 := qq.2.2.1
          have q3 := qq.2.2.2.1
          have q4 := qq.2.2.2.2
          clear qq
          go_simp
          exact hK _ _ rfl rfl (World.grownBy.refl _ none)
        -- op 2 (slot 43): fieldAddr
        refine MonoR.step (Pv.eq (.pointer (some ⟨w.heap.size + 1 + 1, 0, none⟩))) [] (by kernel_rfl) (fun w' hw' => ?_) ?_
        · refine ask_do rfl fun K hK => ?_
          go_simp
          exact hK _ _ rfl rfl (World.grownBy.refl _ none)
        -- op 3 (slot 44): load
        refine MonoR.step (Pv.eq (.int .u64 y.1)) [(2, 43)] (by kernel_rfl) (fun w' hw' => ?_) ?_
        · intro x43 h43
          have e43 : x43 = .pointer (some ⟨w.heap.size + 1 + 1, 0, none⟩) := h43
          clear h43
          subst e43
          refine ask_do rfl fun K hK => ?_
          have qq := HLD.out w' (HW6.out.trans hw')
          have q0 := qq.1
          have q1 := qq.2.1
          have q2 := qq.2.2.1
          have q3 := qq.2.2.2.1
          have q4 := qq.2.2.2.2
          clear qq
          go_simp
          exact hK _ _ rfl rfl (World.grownBy.refl _ none)
        -- op 4 (slot 45): fieldAddr
        refine MonoR.step (Pv.eq (.pointer (some ⟨w.heap.size, 1, none⟩))) [] (by kernel_rfl) (fun w' hw' => ?_) ?_
        · refine ask_do rfl fun K hK => ?_
          go_simp
          exact hK _ _ rfl rfl (World.grownBy.refl _ none)
        -- op 5 (slot 46): load
        refine MonoR.step (Pv.eq (.int .u64 p.Q)) [(4, 45)] (by kernel_rfl) (fun w' hw' => ?_) ?_
        · intro x45 h45
          have e45 : x45 = .pointer (some ⟨w.heap.size, 1, none⟩) := h45
          clear h45
          subst e45
          refine ask_do rfl fun K hK => ?_
          have qq := HLD.out w' (HW6.out.trans hw')
          have q0 := qq.1
          have q1 := qq.2.1
          have q2 := qq.2.2.1
          have q3 := qq.2.2.2.1
          have q4 := qq.2.2.2.2
          clear qq
          go_simp
          exact hK _ _ rfl rfl (World.grownBy.refl _ none)
        -- op 6 (slot 47): call
        refine MonoR.step (Pv.eq (.int .u64 (subI x.1 y.1 p.Q))) [(1, 42), (3, 44), (5, 46)] (by kernel_rfl) (fun w' hw' => ?_) ?_
        · intro x42 h42
          intro x44 h44
          intro x46 h46
          have e42 : x42 = .int .u64 x.1 := h42
          clear h42
          subst e42
          have e44 : x44 = .int .u64 y.1 := h44
          clear h44
          subst e44
          have e46 : x46 = .int .u64 p.Q := h46
          clear h46
          subst e46
          refine ask_do rfl fun K hK => ?_
          go_simp
          refine (sub_gr' x.1 y.1 p.Q w' HU.out.2.1.1 HU.out.2.2.1).mono ?_
          rintro e w4 ⟨rfl, hg⟩
          exact hK _ _ rfl rfl hg
        -- op 7 (slot 48): move
        refine MonoR.step (Pv.eq (.int .u64 iv)) [] (by kernel_rfl) (fun w' hw' => ?_) ?_
        · refine ask_do rfl fun K hK => ?_
          go_simp
          exact hK _ _ rfl rfl (World.grownBy.refl _ none)
        -- op 8 (slot 49): fieldAddr
        refine MonoR.step (Pv.eq (.pointer (some ⟨w.heap.size, 1, none⟩))) [] (by kernel_rfl) (fun w' hw' => ?_) ?_
        · refine ask_do rfl fun K hK => ?_
          go_simp
          exact hK _ _ rfl rfl (World.grownBy.refl _ none)
        -- op 9 (slot 50): load
        refine MonoR.step (Pv.eq (.int .u64 p.Q)) [(8, 49)] (by kernel_rfl) (fun w' hw' => ?_) ?_
        · intro x49 h49
          have e49 : x49 = .pointer (some ⟨w.heap.size, 1, none⟩) := h49
          clear h49
          subst e49
          refine ask_do rfl fun K hK => ?_
          have qq := HLD.out w' (HW6.out.trans hw')
          have q0 := qq.1
          have q1 := qq.2.1
          have q2 := qq.2.2.1
          have q3 := qq.2.2.2.1
          have q4 := qq.2.2.2.2
          clear qq
          go_simp
          exact hK _ _ rfl rfl (World.grownBy.refl _ none)
        -- op 10 (slot 51): call
        refine MonoR.step (Pv.eq (.int .u64 (mulI (subI x.1 y.1 p.Q) iv p.Q))) [(6, 47), (7, 48), (9, 50)] (by kernel_rfl) (fun w' hw' => ?_) ?_
        · intro x47 h47
          intro x48 h48
          intro x50 h50
          have e47 : x47 = .int .u64 (subI x.1 y.1 p.Q) := h47
          clear h47
          subst e47
          have e48 : x48 = .int .u64 iv := h48
          clear h48
          subst e48
          have e50 : x50 = .int .u64 p.Q := h50
          clear h50
          subst e50
          refine ask_do rfl fun K hK => ?_
          go_simp
          refine (mul_gr (subI x.1 y.1 p.Q) iv p.Q w' (subI_U64 _ _ _) HXP.out.1).mono ?_
          rintro e w4 ⟨rfl, hg⟩
          exact hK _ _ rfl rfl hg
        -- op 11 (slot 6): assign
        refine MonoR.step (Pv.eq (.int .u64 (mulI (subI x.1 y.1 p.Q) iv p.Q))) [(10, 51)] (by kernel_rfl) (fun w' hw' => ?_) ?_
        · intro x51 h51
          have e51 : x51 = .int .u64 (mulI (subI x.1 y.1 p.Q) iv p.Q) := h51
          clear h51
          subst e51
          refine ask_do rfl fun K hK => ?_
          go_simp
          exact hK _ _ rfl rfl (World.grownBy.refl _ none)
        -- op 12 (slot 7): assign
        refine MonoR.step (Pv.eq (.bool true)) [] (by kernel_rfl) (fun w' hw' => ?_) ?_
        · refine ask_do rfl fun K hK => ?_
          go_simp
          exact hK _ _ rfl rfl (World.grownBy.refl _ none)
        
        intro w7 hw7
        intro y0 e0 y1 e1 y2 e2 y3 e3 y4 e4 y5 e5 y6 e6 y7 e7 y8 e8 y9 e9 y10 e10 y11 e11 y12 e12
        have e11 : y11 = .int .u64 (mulI (subI x.1 y.1 p.Q) iv p.Q) := e11
        have e12 : y12 = .bool true := e12
        subst e11 e12
        have HF : Hid (w.grownBy w7 none) := Lib.hid (HG6.out.trans hw7)
        clear e0 e1 e2 e3 e4 e5 e6 e7 e8 e9 e10 hw7
        simp only [Act.put, List.setIfInBounds_toArray, List.set_cons_zero, List.set_cons_succ]
        refine wpList_nil ?_
        go_wp2
        go_ret2
        exact ⟨by rw [HRS.out, HV.out]; rfl, HF.out⟩
      · have HV := Lib.hid hv
        have hne0 : (ie != 0) = true := by simp [h0]
        have HF : Hid (w.grownBy w5 none) := Lib.hid (HG3.out.trans HW5.out)
        clear hv h0
        go_wp2
        go_ret2
        exact ⟨by rw [HRS.out, HV.out]; rfl, HF.out⟩
  · have hne : (cx != cy) = true := by simp [hc]
    have HV : Hid (xpow p x y = (0, false)) := Lib.hid (by unfold xpow; rw [if_neg (fun h => hc (by rw [HCX.out, HCY.out]; exact h.1))])
    clear hc
    go_enter Tryd.func6, Tryd.ntmps6
    go_wp2_with fail
    rw [← hW]
    clear hW
    refine wp_region_mono 16 (by kernel_rfl) (by kernel_rfl) ?_
    -- op 0 (slot 10): load
    refine MonoR.step (Pv.eq (p.v)) [] (by kernel_rfl) (fun w' hw' => ?_) ?_
    · refine ask_do rfl fun K hK => ?_
      have qq := HLD.out w' (hw')
      have q0 := qq.1
      have q1 := qq.2.1
      have q2 := qq.2.2.1
      have q3 := qq.2.2.2.1
      have q4 := qq.2.2.2.2
      clear qq
      go_simp
      exact hK _ _ rfl rfl (World.grownBy.refl _ none)
    -- op 1 (slot 11): load
    refine MonoR.step (Pv.eq (.agg #[.int .u64 x.1, .int .u64 x.2])) [] (by kernel_rfl) (fun w' hw' => ?_) ?_
    · refine ask_do rfl fun K hK => ?_
      have qq := HLD.out w' (hw')
      have q0 := qq.1
      have q1 := qq.2.1
      have q2 := qq.2.2.1
      have q3 := qq.2.2.2.1
      have q4 := qq.2.2.2.2
      clear qq
      go_simp
      exact hK _ _ rfl rfl (World.grownBy.refl _ none)
    -- op 2 (slot 12): call
    refine MonoR.step (Pv.eq (.int .u64 cx)) [(0, 10), (1, 11)] (by kernel_rfl) (fun w' hw' => ?_) ?_
    · intro x10 h10
      intro x11 h11
      have e10 : x10 = p.v := h10
      clear h10
      subst e10
      have e11 : x11 = .agg #[.int .u64 x.1, .int .u64 x.2] := h11
      clear h11
      subst e11
      refine ask_do rfl fun K hK => ?_
      go_simp
      have hh := commit_any p x w' HU.out.1 HU.out.2.1.1 HU.out.2.1.2
      rw [← HCX.out] at hh
      refine hh.mono ?_
      rintro e w3 ⟨rfl, hg⟩
      exact hK _ _ rfl rfl hg
    -- op 3 (slot 13): load
    refine MonoR.step (Pv.eq (p.v)) [] (by kernel_rfl) (fun w' hw' => ?_) ?_
    · refine ask_do rfl fun K hK => ?_
      have qq := HLD.out w' (hw')
      have q0 := qq.1
      have q1 := qq.2.1
      have q2 := qq.2.2.1
      have q3 := qq.2.2.2.1
      have q4 := qq.2.2.2.2
      clear qq
      go_simp
      exact hK _ _ rfl rfl (World.grownBy.refl _ none)
    -- op 4 (slot 14): load
    refine MonoR.step (Pv.eq (.agg #[.int .u64 y.1, .int .u64 y.2])) [] (by kernel_rfl) (fun w' hw' => ?_) ?_
    · refine ask_do rfl fun K hK => ?_
      have qq := HLD.out w' (hw')
      have q0 := qq.1
      have q1 := qq.2.1
      have q2 := qq.2.2.1
      have q3 := qq.2.2.2.1
      have q4 := qq.2.2.2.2
      clear qq
      go_simp
      exact hK _ _ rfl rfl (World.grownBy.refl _ none)
    -- op 5 (slot 15): call
    refine MonoR.step (Pv.eq (.int .u64 cy)) [(3, 13), (4, 14)] (by kernel_rfl) (fun w' hw' => ?_) ?_
    · intro x13 h13
      intro x14 h14
      have e13 : x13 = p.v := h13
      clear h13
      subst e13
      have e14 : x14 = .agg #[.int .u64 y.1, .int .u64 y.2] := h14
      clear h14
      subst e14
      refine ask_do rfl fun K hK => ?_
      go_simp
      have hh := commit_any p y w' HU.out.1 HU.out.2.2.1 HU.out.2.2.2
      rw [← HCY.out] at hh
      refine hh.mono ?_
      rintro e w3 ⟨rfl, hg⟩
      exact hK _ _ rfl rfl hg
    -- op 6 (slot 16): binOp
    refine MonoR.step (Pv.eq (.bool true)) [(2, 12), (5, 15)] (by kernel_rfl) (fun w' hw' => ?_) ?_
    · intro x12 h12
      intro x15 h15
      have e12 : x12 = .int .u64 cx := h12
      clear h12
      subst e12
      have e15 : x15 = .int .u64 cy := h15
      clear h15
      subst e15
      refine ask_do rfl fun K hK => ?_
      go_simp
      exact hK _ _ rfl rfl (World.grownBy.refl _ none)
    -- op 7 (slot 17): move
    refine MonoR.step (Pv.eq (.bool true)) [(6, 16)] (by kernel_rfl) (fun w' hw' => ?_) ?_
    · intro x16 h16
      have e16 : x16 = .bool true := h16
      clear h16
      subst e16
      refine ask_do rfl fun K hK => ?_
      go_simp
      exact hK _ _ rfl rfl (World.grownBy.refl _ none)
    -- op 8 (slot 18): load [(7, 'false')]
    refine MonoR.step (Pv.eq (undef)) [(7, 17)] (by kernel_rfl) (fun w' hw' => ?_) ?_
    · intro x17 h17
      have e17 : x17 = .bool true := h17
      clear h17
      subst e17
      exact ask_skip rfl rfl rfl
    -- op 9 (slot 19): load [(7, 'false')]
    refine MonoR.step (Pv.eq (undef)) [(7, 17)] (by kernel_rfl) (fun w' hw' => ?_) ?_
    · intro x17 h17
      have e17 : x17 = .bool true := h17
      clear h17
      subst e17
      exact ask_skip rfl rfl rfl
    -- op 10 (slot 20): call [(7, 'false')]
    refine MonoR.step (Pv.eq (undef)) [(7, 17), (8, 18), (9, 19)] (by kernel_rfl) (fun w' hw' => ?_) ?_
    · intro x17 h17
      intro x18 h18
      intro x19 h19
      have e17 : x17 = .bool true := h17
      clear h17
      subst e17
      have e18 : x18 = undef := h18
      clear h18
      subst e18
      have e19 : x19 = undef := h19
      clear h19
      subst e19
      exact ask_skip rfl rfl rfl
    -- op 11 (slot 21): load [(7, 'false')]
    refine MonoR.step (Pv.eq (undef)) [(7, 17)] (by kernel_rfl) (fun w' hw' => ?_) ?_
    · intro x17 h17
      have e17 : x17 = .bool true := h17
      clear h17
      subst e17
      exact ask_skip rfl rfl rfl
    -- op 12 (slot 22): load [(7, 'false')]
    refine MonoR.step (Pv.eq (undef)) [(7, 17)] (by kernel_rfl) (fun w' hw' => ?_) ?_
    · intro x17 h17
      have e17 : x17 = .bool true := h17
      clear h17
      subst e17
      exact ask_skip rfl rfl rfl
    -- op 13 (slot 23): call [(7, 'false')]
    refine MonoR.step (Pv.eq (undef)) [(7, 17), (11, 21), (12, 22)] (by kernel_rfl) (fun w' hw' => ?_) ?_
    · intro x17 h17
      intro x21 h21
      intro x22 h22
      have e17 : x17 = .bool true := h17
      clear h17
      subst e17
      have e21 : x21 = undef := h21
      clear h21
      subst e21
      have e22 : x22 = undef := h22
      clear h22
      subst e22
      exact ask_skip rfl rfl rfl
    -- op 14 (slot 24): binOp [(7, 'false')]
    refine MonoR.step (Pv.eq (undef)) [(7, 17), (10, 20), (13, 23)] (by kernel_rfl) (fun w' hw' => ?_) ?_
    · intro x17 h17
      intro x20 h20
      intro x23 h23
      have e17 : x17 = .bool true := h17
      clear h17
      subst e17
      have e20 : x20 = undef := h20
      clear h20
      subst e20
      have e23 : x23 = undef := h23
      clear h23
      subst e23
      exact ask_skip rfl rfl rfl
    -- op 15 (slot 25): pick
    refine MonoR.step (Pv.eq (.bool true)) [(7, 17), (14, 24)] (by kernel_rfl) (fun w' hw' => ?_) ?_
    · intro x17 h17
      intro x24 h24
      have e17 : x17 = .bool true := h17
      clear h17
      subst e17
      have e24 : x24 = undef := h24
      clear h24
      subst e24
      refine ask_do rfl fun K hK => ?_
      go_simp
      exact hK _ _ rfl rfl (World.grownBy.refl _ none)
    
    intro w3 hw3
    intro y0 e0 y1 e1 y2 e2 y3 e3 y4 e4 y5 e5 y6 e6 y7 e7 y8 e8 y9 e9 y10 e10 y11 e11 y12 e12 y13 e13 y14 e14 y15 e15
    have e15 : y15 = .bool true := e15
    subst e15
    have HF : Hid (w.grownBy w3 none) := Lib.hid (HG.out.trans hw3)
    clear e0 e1 e2 e3 e4 e5 e6 e7 e8 e9 e10 e11 e12 e13 e14 hw3
    simp only [Act.put, List.setIfInBounds_toArray, List.set_cons_zero, List.set_cons_succ]
    refine wpList_nil ?_
    go_wp2
    go_ret2
    exact ⟨by rw [HRS.out, HV.out]; rfl, HF.out⟩
end Go.Proofs.YtlhjbllfcbojmaaDoor

namespace Go.Proofs.YtlhjbllfcbojmaaDoor
open Go.RowKit

theorem m_may (P : Int) (h1 : 1 ≤ P) (h2 : P ≤ 2305843009213693952) : mayB P = true := by simp [mayB]; omega
theorem powI_yes (a e P : Int) (hm : mayB P = true) : powI a e P = a ^ e.toNat % P := by simp [powI, hm]
/-- What two things are that are the same modulo P and are told modulo P. -/
theorem pow_unit {P x : Int} {n : Nat} (h : Cg P (x ^ n) 1) (k : Nat) : Cg P (x ^ k) (x ^ (k % n)) := by
  have e : x ^ k = (x ^ n) ^ (k / n) * x ^ (k % n) := by
    rw [← Int.pow_mul, ← Int.pow_add, Nat.div_add_mod]
  rw [e]
  refine ((h.pow (k / n)).mul_right _).trans (Cg.of_eq ?_)
  rw [Int.one_pow, Int.one_mul]
theorem toNat_mod (e Q : Int) (he : 0 ≤ e) (hQ : 0 < Q) : (e % Q).toNat = e.toNat % Q.toNat := by
  obtain ⟨a, rfl⟩ := Int.eq_ofNat_of_zero_le he
  obtain ⟨b, rfl⟩ := Int.eq_ofNat_of_zero_le (Int.le_of_lt hQ)
  have e : ((a : Int) % (b : Int)) = ((a % b : Nat) : Int) := by simp
  rw [e, Int.toNat_natCast, Int.toNat_natCast, Int.toNat_natCast]
theorem pow_mod {P x Q e : Int} (h : Cg P (x ^ Q.toNat) 1) (he : 0 ≤ e) (hQ : 0 < Q) : Cg P (x ^ (e % Q).toNat) (x ^ e.toNat) := by
  rw [toNat_mod e Q he hQ]
  exact (pow_unit h _).symm
/-- What params that may be give. -/
structure Good (p : Par) : Prop where
  P : mayB p.P = true
  Q : mayB p.Q = true
  P2 : 2 ≤ p.P
  Q2 : 2 ≤ p.Q
  G : Cg p.P (p.G ^ p.Q.toNat) 1
  H : Cg p.P (p.H ^ p.Q.toNat) 1
  T : 1 ≤ p.T ∧ p.T ≤ 2
  N : 3 * p.T + 1 ≤ p.N ∧ p.N ≤ 7 ∧ p.N < p.Q
  K : 1 ≤ p.K ∧ p.K ≤ 2
  D : 1 ≤ p.D ∧ p.D ≤ 4
  prime : primeB p.Q = true ∧ primeB p.P = true
  M : 1 ≤ p.M ∧ p.M ≤ 1048576
  X : 1 ≤ p.X ∧ p.X ≤ 1048576
  big : 2 * (p.D * p.M * p.X + p.M) < p.Q
theorem is_cg {p : Par} {x : Int} (hP : mayB p.P = true) (h2 : 2 ≤ p.P) (h : isB p x = true) : Cg p.P (x ^ p.Q.toNat) 1 := by
  simp only [isB, Bool.and_eq_true, beq_iff_eq] at h
  have e := h.2
  rw [powI_yes _ _ _ hP] at e
  unfold Cg
  rw [e, Int.emod_eq_of_lt (by decide) (by omega)]
theorem good_of {p : Par} (h : mayP p = true) : Good p := by
  simp only [mayP, m1, m2, m3, m4, m5, m6, m7, m8, m9, m10, Bool.and_eq_true, withinB_iff, decide_eq_true_eq, beq_iff_eq] at h
  obtain ⟨⟨⟨⟨⟨⟨⟨⟨⟨⟨⟨⟨a1, a2⟩, a3⟩, a4⟩, b1, b2⟩, ⟨c1, c2⟩, c3⟩, d1⟩, ⟨e1, e2⟩, f1, f2⟩, g1⟩, ⟨i1, i2⟩, j1, j2⟩, k1⟩, l1, l2⟩, ⟨⟨n1, n2⟩, n3⟩, n4⟩ := h
  have hP := m_may p.P (by omega) a2
  have hd : p.Q ∣ p.P - 1 := Int.dvd_of_emod_eq_zero a4
  have hQ : p.Q ≤ p.P - 1 := Int.le_of_dvd (by omega) hd
  exact ⟨hP, m_may p.Q (by omega) (by omega), a1, a3, is_cg hP a1 n2, is_cg hP a1 n4, ⟨b1, b2⟩, ⟨c1, c2, c3⟩, ⟨e1, e2⟩, ⟨f1, f2⟩, ⟨l1, l2⟩, ⟨i1, i2⟩, ⟨j1, j2⟩, k1⟩

end Go.Proofs.YtlhjbllfcbojmaaDoor

namespace Go.Proofs.YtlhjbllfcbojmaaDoor
open Go Go.RowKit Go.Shelf

def xknows (p : Par) (k : Int) : Bool := mayP p && decide (powI p.G k p.P = p.H)
set_option maxRecDepth 100000 in
set_option maxHeartbeats 1000000 in
theorem xknows_any (p : Par) (k : Int) (w : World) (hp : p.ok) (hT : TabsAt w) (hk : U64 k) :
    Calls Tryd.prog 8 #[p.v, .int .u64 k] w fun e w' => e = .returned (.bool (xknows p k)) ∧ w.grownBy w' none := by
  obtain ⟨W, hW⟩ : ∃ W, W = w.alloc (.cells p.cells 24) := ⟨_, rfl⟩
  have HP : Hid (Bk W w.heap.size 24 p.cells) := Lib.hid (by rw [hW]; exact Bk.new w _ _)
  have HG : Hid (w.grownBy W.drew none) := Lib.hid (by rw [hW]; exact (World.grownBy_alloc _ _ none).trans (grown_drewN' _ 1))
  have HDR : Hid (W.grownBy W.drew none) := Lib.hid (grown_drewN' W 1)
  have HU := Lib.hid (And.intro hp (And.intro hk hT))
  obtain ⟨rs, hrs⟩ : ∃ z, z = xknows p k := ⟨_, rfl⟩
  have HRS := Lib.hid hrs
  rw [← hrs]
  clear hp hk hT hrs
  obtain ⟨B, hB⟩ : ∃ z, z = mayP p := ⟨_, rfl⟩
  have HB := Lib.hid hB
  obtain ⟨pw, hpw⟩ : ∃ z, z = powI p.G k p.P := ⟨_, rfl⟩
  have HPW := Lib.hid hpw
  clear hB hpw
  cases B with
  | false =>
    have HV : Hid (xknows p k = false) := Lib.hid (by unfold xknows; rw [← HB.out]; rfl)
    go_enter Tryd.func8, Tryd.ntmps8
    go_wp2_with fail
    rw [← hW]
    clear hW
    refine wp_region_mono 13 (by kernel_rfl) (by kernel_rfl) ?_
    -- op 0 (slot 5): load
    refine MonoR.step (Pv.eq (p.v)) [] (by kernel_rfl) (fun w' hw' => ?_) ?_
    · refine ask_do rfl fun K hK => ?_
      have hq := (HP.out.grown (HDR.out.trans hw') (by simp)).prule
      go_simp
      exact hK _ _ rfl rfl (World.grownBy.refl _ none)
    -- op 1 (slot 6): call
    refine MonoR.step (Pv.eq (.bool false)) [(0, 5)] (by kernel_rfl) (fun w' hw' => ?_) ?_
    · intro x5 h5
      have e5 : x5 = p.v := h5
      clear h5
      subst e5
      refine ask_do rfl fun K hK => ?_
      go_simp
      have hh := may_any p w' HU.out.1 (HU.out.2.2.kept (HG.out.trans hw'))
      rw [← HB.out] at hh
      refine hh.mono ?_
      rintro e w4 ⟨rfl, hg⟩
      exact hK _ _ rfl rfl hg
    -- op 2 (slot 7): move
    refine MonoR.step (Pv.eq (.bool false)) [(1, 6)] (by kernel_rfl) (fun w' hw' => ?_) ?_
    · intro x6 h6
      have e6 : x6 = .bool false := h6
      clear h6
      subst e6
      refine ask_do rfl fun K hK => ?_
      go_simp
      exact hK _ _ rfl rfl (World.grownBy.refl _ none)
    -- op 3 (slot 8): load [(2, 'true')]
    refine MonoR.step (Pv.eq (undef)) [(2, 7)] (by kernel_rfl) (fun w' hw' => ?_) ?_
    · intro x7 h7
      have e7 : x7 = .bool false := h7
      clear h7
      subst e7
      exact ask_skip rfl rfl rfl
    -- op 4 (slot 9): fieldAddr [(2, 'true')]
    refine MonoR.step (Pv.eq (undef)) [(2, 7)] (by kernel_rfl) (fun w' hw' => ?_) ?_
    · intro x7 h7
      have e7 : x7 = .bool false := h7
      clear h7
      subst e7
      exact ask_skip rfl rfl rfl
    -- op 5 (slot 10): load [(2, 'true')]
    refine MonoR.step (Pv.eq (undef)) [(2, 7), (4, 9)] (by kernel_rfl) (fun w' hw' => ?_) ?_
    · intro x7 h7
      intro x9 h9
      have e7 : x7 = .bool false := h7
      clear h7
      subst e7
      have e9 : x9 = undef := h9
      clear h9
      subst e9
      exact ask_skip rfl rfl rfl
    -- op 6 (slot 11): move [(2, 'true')]
    refine MonoR.step (Pv.eq (undef)) [(2, 7)] (by kernel_rfl) (fun w' hw' => ?_) ?_
    · intro x7 h7
      have e7 : x7 = .bool false := h7
      clear h7
      subst e7
      exact ask_skip rfl rfl rfl
    -- op 7 (slot 12): call [(2, 'true')]
    refine MonoR.step (Pv.eq (undef)) [(2, 7), (3, 8), (5, 10), (6, 11)] (by kernel_rfl) (fun w' hw' => ?_) ?_
    · intro x7 h7
      intro x8 h8
      intro x10 h10
      intro x11 h11
      have e7 : x7 = .bool false := h7
      clear h7
      subst e7
      have e8 : x8 = undef := h8
      clear h8
      subst e8
      have e10 : x10 = undef := h10
      clear h10
      subst e10
      have e11 : x11 = undef := h11
      clear h11
      subst e11
      exact ask_skip rfl rfl rfl
    -- op 8 (slot 13): fieldAddr [(2, 'true')]
    refine MonoR.step (Pv.eq (undef)) [(2, 7)] (by kernel_rfl) (fun w' hw' => ?_) ?_
    · intro x7 h7
      have e7 : x7 = .bool false := h7
      clear h7
      subst e7
      exact ask_skip rfl rfl rfl
    -- op 9 (slot 14): load [(2, 'true')]
    refine MonoR.step (Pv.eq (undef)) [(2, 7), (8, 13)] (by kernel_rfl) (fun w' hw' => ?_) ?_
    · intro x7 h7
      intro x13 h13
      have e7 : x7 = .bool false := h7
      clear h7
      subst e7
      have e13 : x13 = undef := h13
      clear h13
      subst e13
      exact ask_skip rfl rfl rfl
    -- op 10 (slot 15): binOp [(2, 'true')]
    refine MonoR.step (Pv.eq (undef)) [(2, 7), (7, 12), (9, 14)] (by kernel_rfl) (fun w' hw' => ?_) ?_
    · intro x7 h7
      intro x12 h12
      intro x14 h14
      have e7 : x7 = .bool false := h7
      clear h7
      subst e7
      have e12 : x12 = undef := h12
      clear h12
      subst e12
      have e14 : x14 = undef := h14
      clear h14
      subst e14
      exact ask_skip rfl rfl rfl
    -- op 11 (slot 16): pick
    refine MonoR.step (Pv.eq (.bool false)) [(2, 7), (10, 15)] (by kernel_rfl) (fun w' hw' => ?_) ?_
    · intro x7 h7
      intro x15 h15
      have e7 : x7 = .bool false := h7
      clear h7
      subst e7
      have e15 : x15 = undef := h15
      clear h15
      subst e15
      refine ask_do rfl fun K hK => ?_
      go_simp
      exact hK _ _ rfl rfl (World.grownBy.refl _ none)
    -- op 12 (slot 4): assign
    refine MonoR.step (Pv.eq (.bool false)) [(11, 16)] (by kernel_rfl) (fun w' hw' => ?_) ?_
    · intro x16 h16
      have e16 : x16 = .bool false := h16
      clear h16
      subst e16
      refine ask_do rfl fun K hK => ?_
      go_simp
      exact hK _ _ rfl rfl (World.grownBy.refl _ none)
    
    intro w3 hw3
    intro y0 e0 y1 e1 y2 e2 y3 e3 y4 e4 y5 e5 y6 e6 y7 e7 y8 e8 y9 e9 y10 e10 y11 e11 y12 e12
    have e12 : y12 = .bool false := e12
    subst e12
    have HF : Hid (w.grownBy w3 none) := Lib.hid (HG.out.trans hw3)
    clear e0 e1 e2 e3 e4 e5 e6 e7 e8 e9 e10 e11 hw3
    simp only [Act.put, List.setIfInBounds_toArray, List.set_cons_zero, List.set_cons_succ]
    refine wpList_nil ?_
    go_wp2
    go_ret
    exact ⟨by rw [HRS.out, HV.out]; rfl, HF.out⟩
  | true =>
    obtain ⟨B2, hB2⟩ : ∃ z, z = (pw == p.H) := ⟨_, rfl⟩
    have HB2 := Lib.hid hB2
    have HV : Hid (xknows p k = B2) := Lib.hid (by
      unfold xknows
      rw [← HB.out, ← HPW.out, hB2]
      rfl)
    clear hB2
    go_enter Tryd.func8, Tryd.ntmps8
    go_wp2_with fail
    rw [← hW]
    clear hW
    refine wp_region_mono 13 (by kernel_rfl) (by kernel_rfl) ?_
    -- op 0 (slot 5): load
    refine MonoR.step (Pv.eq (p.v)) [] (by kernel_rfl) (fun w' hw' => ?_) ?_
    · refine ask_do rfl fun K hK => ?_
      have hq := (HP.out.grown (HDR.out.trans hw') (by simp)).prule
      go_simp
      exact hK _ _ rfl rfl (World.grownBy.refl _ none)
    -- op 1 (slot 6): call
    refine MonoR.step (Pv.eq (.bool true)) [(0, 5)] (by kernel_rfl) (fun w' hw' => ?_) ?_
    · intro x5 h5
      have e5 : x5 = p.v := h5
      clear h5
      subst e5
      refine ask_do rfl fun K hK => ?_
      go_simp
      have hh := may_any p w' HU.out.1 (HU.out.2.2.kept (HG.out.trans hw'))
      rw [← HB.out] at hh
      refine hh.mono ?_
      rintro e w4 ⟨rfl, hg⟩
      exact hK _ _ rfl rfl hg
    -- op 2 (slot 7): move
    refine MonoR.step (Pv.eq (.bool true)) [(1, 6)] (by kernel_rfl) (fun w' hw' => ?_) ?_
    · intro x6 h6
      have e6 : x6 = .bool true := h6
      clear h6
      subst e6
      refine ask_do rfl fun K hK => ?_
      go_simp
      exact hK _ _ rfl rfl (World.grownBy.refl _ none)
    -- op 3 (slot 8): load [(2, 'true')]
    refine MonoR.step (Pv.eq (p.v)) [(2, 7)] (by kernel_rfl) (fun w' hw' => ?_) ?_
    · intro x7 h7
      have e7 : x7 = .bool true := h7
      clear h7
      subst e7
      refine ask_do (by kernel_rfl) fun K hK => ?_
      have hq := (HP.out.grown (HDR.out.trans hw') (by simp)).prule
      go_simp
      exact hK _ _ rfl rfl (World.grownBy.refl _ none)
    -- op 4 (slot 9): fieldAddr [(2, 'true')]
    refine MonoR.step (Pv.eq (.pointer (some ⟨w.heap.size, 2, none⟩))) [(2, 7)] (by kernel_rfl) (fun w' hw' => ?_) ?_
    · intro x7 h7
      have e7 : x7 = .bool true := h7
      clear h7
      subst e7
      refine ask_do (by kernel_rfl) fun K hK => ?_
      go_simp
      exact hK _ _ rfl rfl (World.grownBy.refl _ none)
    -- op 5 (slot 10): load [(2, 'true')]
    refine MonoR.step (Pv.eq (.int .u64 p.G)) [(2, 7), (4, 9)] (by kernel_rfl) (fun w' hw' => ?_) ?_
    · intro x7 h7
      intro x9 h9
      have e7 : x7 = .bool true := h7
      clear h7
      subst e7
      have e9 : x9 = .pointer (some ⟨w.heap.size, 2, none⟩) := h9
      clear h9
      subst e9
      refine ask_do (by kernel_rfl) fun K hK => ?_
      have hq := (HP.out.grown (HDR.out.trans hw') (by simp)).prule
      go_simp
      exact hK _ _ rfl rfl (World.grownBy.refl _ none)
    -- op 6 (slot 11): move [(2, 'true')]
    refine MonoR.step (Pv.eq (.int .u64 k)) [(2, 7)] (by kernel_rfl) (fun w' hw' => ?_) ?_
    · intro x7 h7
      have e7 : x7 = .bool true := h7
      clear h7
      subst e7
      refine ask_do (by kernel_rfl) fun K hK => ?_
      go_simp
      exact hK _ _ rfl rfl (World.grownBy.refl _ none)
    -- op 7 (slot 12): call [(2, 'true')]
    refine MonoR.step (Pv.eq (.int .u64 pw)) [(2, 7), (3, 8), (5, 10), (6, 11)] (by kernel_rfl) (fun w' hw' => ?_) ?_
    · intro x7 h7
      intro x8 h8
      intro x10 h10
      intro x11 h11
      have e7 : x7 = .bool true := h7
      clear h7
      subst e7
      have e8 : x8 = p.v := h8
      clear h8
      subst e8
      have e10 : x10 = .int .u64 p.G := h10
      clear h10
      subst e10
      have e11 : x11 = .int .u64 k := h11
      clear h11
      subst e11
      refine ask_do (by kernel_rfl) fun K hK => ?_
      go_simp
      have hh := power_any p p.G k w' HU.out.1.G HU.out.2.1
      rw [← HPW.out] at hh
      refine hh.mono ?_
      rintro e w4 ⟨rfl, hg⟩
      exact hK _ _ rfl rfl hg
    -- op 8 (slot 13): fieldAddr [(2, 'true')]
    refine MonoR.step (Pv.eq (.pointer (some ⟨w.heap.size, 3, none⟩))) [(2, 7)] (by kernel_rfl) (fun w' hw' => ?_) ?_
    · intro x7 h7
      have e7 : x7 = .bool true := h7
      clear h7
      subst e7
      refine ask_do (by kernel_rfl) fun K hK => ?_
      go_simp
      exact hK _ _ rfl rfl (World.grownBy.refl _ none)
    -- op 9 (slot 14): load [(2, 'true')]
    refine MonoR.step (Pv.eq (.int .u64 p.H)) [(2, 7), (8, 13)] (by kernel_rfl) (fun w' hw' => ?_) ?_
    · intro x7 h7
      intro x13 h13
      have e7 : x7 = .bool true := h7
      clear h7
      subst e7
      have e13 : x13 = .pointer (some ⟨w.heap.size, 3, none⟩) := h13
      clear h13
      subst e13
      refine ask_do (by kernel_rfl) fun K hK => ?_
      have hq := (HP.out.grown (HDR.out.trans hw') (by simp)).prule
      go_simp
      exact hK _ _ rfl rfl (World.grownBy.refl _ none)
    -- op 10 (slot 15): binOp [(2, 'true')]
    refine MonoR.step (Pv.eq (.bool B2)) [(2, 7), (7, 12), (9, 14)] (by kernel_rfl) (fun w' hw' => ?_) ?_
    · intro x7 h7
      intro x12 h12
      intro x14 h14
      have e7 : x7 = .bool true := h7
      clear h7
      subst e7
      have e12 : x12 = .int .u64 pw := h12
      clear h12
      subst e12
      have e14 : x14 = .int .u64 p.H := h14
      clear h14
      subst e14
      refine ask_do (by kernel_rfl) fun K hK => ?_
      go_simp
      exact hK _ _ rfl (by show Value.bool _ = Value.bool _; rw [HB2.out]) (World.grownBy.refl _ none)
    -- op 11 (slot 16): pick
    refine MonoR.step (Pv.eq (.bool B2)) [(2, 7), (10, 15)] (by kernel_rfl) (fun w' hw' => ?_) ?_
    · intro x7 h7
      intro x15 h15
      have e7 : x7 = .bool true := h7
      clear h7
      subst e7
      have e15 : x15 = .bool B2 := h15
      clear h15
      subst e15
      refine ask_do rfl fun K hK => ?_
      go_simp
      exact hK _ _ rfl rfl (World.grownBy.refl _ none)
    -- op 12 (slot 4): assign
    refine MonoR.step (Pv.eq (.bool B2)) [(11, 16)] (by kernel_rfl) (fun w' hw' => ?_) ?_
    · intro x16 h16
      have e16 : x16 = .bool B2 := h16
      clear h16
      subst e16
      refine ask_do rfl fun K hK => ?_
      go_simp
      exact hK _ _ rfl rfl (World.grownBy.refl _ none)
    
    intro w3 hw3
    intro y0 e0 y1 e1 y2 e2 y3 e3 y4 e4 y5 e5 y6 e6 y7 e7 y8 e8 y9 e9 y10 e10 y11 e11 y12 e12
    have e12 : y12 = .bool B2 := e12
    subst e12
    have HF : Hid (w.grownBy w3 none) := Lib.hid (HG.out.trans hw3)
    clear e0 e1 e2 e3 e4 e5 e6 e7 e8 e9 e10 e11 hw3
    simp only [Act.put, List.setIfInBounds_toArray, List.set_cons_zero, List.set_cons_succ]
    refine wpList_nil ?_
    go_wp2
    go_ret
    exact ⟨by rw [HRS.out, HV.out]; rfl, HF.out⟩
/-- What holders have: by their indices. -/
abbrev Hold := Nat → Option (List (Int × Int))
def haveO (h : Hold) : List Int → Option (List (List (Int × Int)))
  | [] => some []
  | i :: l => match h i.toNat with
    | none => none
    | some x => (haveO h l).map (x :: ·)
theorem haveO_snoc (h : Hold) (i : Int) : ∀ (l : List Int), haveO h (l ++ [i]) = (haveO h l).bind fun L => (h i.toNat).map fun x => L ++ [x]
  | [] => by
    simp only [List.nil_append, haveO]
    cases h i.toNat <;> rfl
  | j :: l => by
    simp only [List.cons_append, haveO]
    cases h j.toNat with
    | none => rfl
    | some x =>
      simp only [haveO_snoc h i l]
      cases haveO h l with
      | none => rfl
      | some L => cases h i.toNat <;> rfl
theorem haveO_none (h : Hold) : ∀ (l r : List Int), haveO h l = none → haveO h (l ++ r) = none
  | [], r, e => by simp [haveO] at e
  | j :: l, r, e => by
    simp only [List.cons_append, haveO] at e ⊢
    cases hj : h j.toNat with
    | none => rfl
    | some x =>
      rw [hj] at e
      have e' : haveO h l = none := by simpa using e
      simp [haveO_none h l r e']
theorem haveO_len (h : Hold) : ∀ (l : List Int) (L : List (List (Int × Int))), haveO h l = some L → L.length = l.length
  | [], L, e => by simp [haveO] at e; subst e; rfl
  | j :: l, L, e => by
    simp only [haveO] at e
    cases hj : h j.toNat with
    | none => rw [hj] at e; cases e
    | some x =>
      rw [hj] at e
      simp only [Option.map_eq_some_iff] at e
      obtain ⟨L', h1, rfl⟩ := e
      simp [haveO_len h l L' h1]
/-- The array as it lies. -/
def HoldsAt (W : World) (vs : List Value) (h : Hold) : Prop := vs.length = 8 ∧ ∀ i, i < 8 → match h i with
  | none => vs[i]? = some (.slice none 0 0)
  | some s => ∃ g o c, vs[i]? = some (.slice (some ⟨g, o, none⟩) s.length c) ∧ Sl encP TT W (.slice (some ⟨g, o, none⟩) s.length c) s
theorem HoldsAt.kept {W W' : World} {vs : List Value} {h : Hold} (hh : HoldsAt W vs h) (hg : W.grownBy W' none) : HoldsAt W' vs h := ⟨hh.1, fun i hi => by
  have := hh.2 i hi
  cases e : h i with
  | none => rw [e] at this; exact this
  | some s =>
    rw [e] at this
    obtain ⟨g, o, c, h1, h2⟩ := this
    exact ⟨g, o, c, h1, h2.kept hg⟩⟩
theorem HoldsAt.firm {W W' : World} {vs : List Value} {h : Hold} (hh : HoldsAt W vs h) (hk : ∀ s v, Sl encP TT W v s → Sl encP TT W' v s) : HoldsAt W' vs h := ⟨hh.1, fun i hi => by
  have := hh.2 i hi
  cases e : h i with
  | none => rw [e] at this; exact this
  | some s =>
    rw [e] at this
    obtain ⟨g, o, c, h1, h2⟩ := this
    exact ⟨g, o, c, h1, hk _ _ h2⟩⟩
set_option maxRecDepth 100000 in
set_option maxHeartbeats 1000000 in
theorem of_any (vs : List Value) (h : Hold) (v : Value) (l : List Int) (X : Nat → Prop) (w : World) (hh : HoldsAt w vs h) (hl : Sl encI X w v l) (hb : ∀ i ∈ l, 1 ≤ i ∧ i ≤ 7) (hn : l.length ≤ 3) :
    Calls Tryd.prog 31 #[.agg vs.toArray, v] w fun e w' => (∃ u, e = .returned (.tuple #[u, .bool (haveO h l).isSome]) ∧ Sl (encS encP) TT w' u ((haveO h l).getD [])) ∧ w.grownBy w' none := by
  obtain ⟨W, hW⟩ : ∃ W, W = w.alloc (.cells vs.toArray 55) := ⟨_, rfl⟩
  have HBW : Hid (Bk W w.heap.size 55 vs.toArray) := Lib.hid (by rw [hW]; exact Bk.new w _ _)
  have HG0 : Hid (w.grownBy W none) := Lib.hid (by rw [hW]; exact World.grownBy_alloc _ _ none)
  have HH := Lib.hid (hh.kept HG0.out)
  have HL := Lib.hid (hl.kept HG0.out)
  have HLN := Lib.hid (And.intro hb hn)
  obtain ⟨A, c, rfl, hc1, hc2⟩ := hl.form
  obtain ⟨n, hnn⟩ : ∃ k, k = l.length := ⟨_, rfl⟩
  have HN := Lib.hid hnn
  rw [← hnn] at HL hc1 ⊢
  clear hh hl hb hn hnn
  obtain ⟨rs, hrs⟩ : ∃ z, z = haveO h l := ⟨_, rfl⟩
  have HRS := Lib.hid hrs
  rw [← hrs]
  clear hrs
  obtain ⟨v0, v1, v2, v3, v4, v5, v6, v7, hvs⟩ : ∃ v0 v1 v2 v3 v4 v5 v6 v7 : Value, vs = [v0, v1, v2, v3, v4, v5, v6, v7] := by
    have h8 := HH.out.1
    match vs, h8 with
    | [a0, a1, a2, a3, a4, a5, a6, a7], _ => exact ⟨_, _, _, _, _, _, _, _, rfl⟩
  subst hvs
  have hnil : ∀ (W : World) (a : Option Addr) (n c : Nat), (binOp .eql 27 (.slice a n c) (.slice none 0 0)).run Tryd.prog W = .ok (.bool a.isNone) W := fun W a n c => Lib.run_eql_slice_nil W 27 _ a n c 0 0 Tryd.underlying27
  go_enter Tryd.func31, Tryd.ntmps31
  go_wp2_with fail
  rw [← hW]
  clear hW
  go_loopg [6, 11] n (fun g s6 s11 wx => ∃ j : Nat, j + g = n ∧ s11 = .int .i64 j ∧ Hid (∃ L, haveO h (l.take j) = some L ∧ Acc (encS encP) W.heap.size 27 TT wx s6 L ∧ W.grownBy wx none))
  case atStart => exact ⟨0, by omega, rfl, Lib.hid ⟨[], rfl, Acc.nil _ _ _ _ _, World.grownBy.refl _ none⟩⟩
  case round =>
    obtain ⟨j, hj, rfl, HX⟩ := hrel
    cases gk with
    | zero =>
      obtain rfl : j = n := by omega
      have HV : Hid ((∃ L, rs = some L ∧ Sl (encS encP) TT wr u6 L) ∧ w.grownBy wr none) := Lib.hid (by
        obtain ⟨L, h1, h2, h3⟩ := HX.out
        rw [HN.out, List.take_length] at h1
        exact ⟨⟨L, by rw [HRS.out, h1], h2.sl⟩, HG0.out.trans h3⟩)
      clear HX
      go_wp2
      go_ret2
      obtain ⟨L, h1, h2⟩ := HV.out.1
      subst h1
      exact ⟨⟨_, rfl, h2⟩, HV.out.2⟩
    | succ m =>
      have hjn : (j : Int) < (n : Int) := by omega
      have hjl : j < l.length := by have := HN.out; omega
      obtain ⟨L, h1, h2, h3⟩ := HX.out
      obtain ⟨g, o, c', e, _, _, hcu, hu⟩ := (HL.out.kept h3).atI hjl
      injection e with e e' e''
      subst e
      clear e' e'' HX
      obtain ⟨a, ha⟩ : ∃ a : Nat, l[j] = (a : Int) := ⟨l[j].toNat, by have := HLN.out.1 _ (List.getElem_mem hjl); omega⟩
      have ha7 : (a : Int) < 8 := by have := HLN.out.1 _ (List.getElem_mem hjl); omega
      have ha0 : (0 : Int) ≤ (a : Int) := Int.natCast_nonneg a
      have HTK : Hid (l.take (j + 1) = l.take j ++ [(a : Int)]) := Lib.hid (by rw [← ha, List.take_succ_eq_append_getElem hjl])
      rw [ha] at hcu
      have hat := HH.out.2 a (by omega)
      have hcb := (HBW.out.grown h3 (by simp)).cell a
      have H1 := Lib.hid h1
      have H2 := Lib.hid h2
      have H3 := Lib.hid h3
      clear ha hu h1 h2 h3
      cases hha : h a with
      | none =>
        rw [hha] at hat
        have hci : wr.cell? ⟨w.heap.size, a, none⟩ = some (.slice none 0 0) := by rw [hcb]; simpa using hat
        have HV : Hid (rs = none) := Lib.hid (by
          rw [HRS.out, ← List.take_append_drop (j + 1) l]
          refine haveO_none h _ _ ?_
          rw [HTK.out, haveO_snoc, H1.out]
          simp [hha])
        have HF : Hid (w.grownBy wr none) := Lib.hid (HG0.out.trans H3.out)
        clear hcb hat hha
        go_wp2
        go_ret2
        rw [HV.out]
        exact ⟨⟨_, rfl, Sl.nil _ _ _⟩, HF.out⟩
      | some s =>
        rw [hha] at hat
        obtain ⟨g3, o3, c3, hv3, hs3⟩ := hat
        have hci : wr.cell? ⟨w.heap.size, a, none⟩ = some (.slice (some ⟨g3, o3, none⟩) s.length c3) := by rw [hcb]; simpa using hv3
        obtain ⟨m3, hm3⟩ : ∃ k, k = s.length := ⟨_, rfl⟩
        have HS3 := Lib.hid hs3.bounded
        rw [← hm3] at HS3 hci
        have HTN : Hid (haveO h (l.take (j + 1)) = some (L ++ [s])) := Lib.hid (by
          rw [HTK.out, haveO_snoc, H1.out]
          simp [hha])
        have HREP : Hid ((encS encP).rep (fun g => TT g ∧ some g ≠ u6.ownBlock) wr [.slice (some ⟨g3, o3, none⟩) m3 c3] s) := Lib.hid ⟨_, rfl, (HS3.out.kept H3.out).more fun b _ hb => ⟨trivial, fun e => by have := (H2.out.lt b e.symm).1; have := hb.2; omega⟩⟩
        have HLB : Hid ((L.length + 1) * 24 ≤ 140737488355328) := Lib.hid (by
          have := haveO_len h _ _ H1.out
          have h9 := HLN.out.2
          rw [List.length_take] at this
          omega)
        clear hcb hha hv3 hs3 hm3
        go_wp2_with (at_builtin; refine wpList_pushG rfl (.tmp 19) (.tmp 23) rfl (E := encS encP) (y := s) el_pairs H3.out H2.out (fun _ _ => trivial) HREP.out HLB.out rfl rfl ?_)
        intro v9 w9 hacc9 hg9 _
        have HFIN : Hid (∃ L, haveO h (l.take (j + 1)) = some L ∧ Acc (encS encP) W.heap.size 27 TT w9 v9 L ∧ W.grownBy w9 none) := Lib.hid ⟨L ++ [s], HTN.out, hacc9, hg9⟩
        clear hacc9 hg9
        go_wp2_with fail
        go_roundg m
        case measure => omega
        case rel => exact ⟨j + 1, by omega, by go_num, HFIN⟩
end Go.Proofs.YtlhjbllfcbojmaaDoor

namespace Go.Proofs.YtlhjbllfcbojmaaDoor
open Go Go.RowKit Go.Shelf

/-- A member's share: the epoch, the index, the pairs. -/
abbrev HH := Int × Int × List (Int × Int)
def encH : Enc HH where
  size := 3
  pos := by decide
  rep := fun X w cs d => ∃ v, cs = [.int .i64 d.1, .int .i64 d.2.1, v] ∧ I64 d.1 ∧ I64 d.2.1 ∧ Sl encP X w v d.2.2
  len := fun h => by obtain ⟨v, rfl, _⟩ := h; rfl
  ones := fun h u hu => by
    obtain ⟨v, rfl, _, _, A, c, rfl, _⟩ := h
    simp at hu
    rcases hu with rfl | rfl | rfl <;> rfl
  keep := fun h hg hX => by obtain ⟨v, e, i, j, h⟩ := h; exact ⟨v, e, i, j, h.keep hg hX⟩
  more := fun h hX => by obtain ⟨v, e, i, j, h⟩ := h; exact ⟨v, e, i, j, h.more hX⟩
  keepc := fun h hg hr => by obtain ⟨v, e, i, j, h⟩ := h; exact ⟨v, e, i, j, h.keepc hg hr⟩
theorem Sl.atH {X : Nat → Prop} {w : World} {v : Value} {xs : List HH} (h : Sl encH X w v xs) {k : Nat} (hk : k < xs.length) :
    ∃ g o c u, v = .slice (some ⟨g, o, none⟩) xs.length c ∧ g < w.heap.size ∧ X g ∧ (w.cell? ⟨g, o + k * 3, none⟩ = some (.int .i64 xs[k].1) ∧ w.cell? ⟨g, o + k * 3 + 1, none⟩ = some (.int .i64 xs[k].2.1) ∧ w.cell? ⟨g, o + k * 3 + 2, none⟩ = some u) ∧ I64 xs[k].1 ∧ I64 xs[k].2.1 ∧ Sl encP X w u xs[k].2.2 := by
  obtain ⟨g, o, c, cs, e, hg, hX, ⟨u, rfl, hi, hj, hu⟩, hc⟩ := h.at hk
  exact ⟨g, o, c, u, e, hg, hX, ⟨hc 0 _ rfl, hc 1 _ rfl, hc 2 _ rfl⟩, hi, hj, hu⟩
/-- One share put in. -/
def putH (s : Int) (t : Nat → Hold) (h : HH) : Nat → Hold :=
  if 1 ≤ h.1 ∧ h.1 ≤ 64 ∧ 1 ≤ h.2.1 ∧ h.2.1 ≤ 7 ∧ (h.2.2.length : Int) = s ∧ t h.1.toNat h.2.1.toNat = none then fun e i => if e = h.1.toNat ∧ i = h.2.1.toNat then some h.2.2 else t e i else t
def tblI (s : Int) (l : List HH) : Nat → Hold := l.foldl (putH s) fun _ _ => none
theorem tblI_snoc (s : Int) (l : List HH) (h : HH) : tblI s (l ++ [h]) = putH s (tblI s l) h := by simp [tblI]
/-- The array of epochs as it lies. -/
def EpAt (W : World) (N g : Nat) (cs : Array Value) (t : Nat → Hold) : Prop := Bk W g 56 cs ∧ cs.size = 520 ∧ ∀ e i, e < 65 → i < 8 → match t e i with
  | none => cs[e * 8 + i]? = some (.slice none 0 0)
  | some s => ∃ g o c, cs[e * 8 + i]? = some (.slice (some ⟨g, o, none⟩) s.length c) ∧ Sl encP (fun b => b < N) W (.slice (some ⟨g, o, none⟩) s.length c) s
theorem EpAt.grown {W W' : World} {N g : Nat} {cs : Array Value} {t : Nat → Hold} (h : EpAt W N g cs t) (hg : W.grownBy W' none) : EpAt W' N g cs t := ⟨h.1.grown hg (by simp), h.2.1, fun e i he hi => by
  have := h.2.2 e i he hi
  cases ht : t e i with
  | none => rw [ht] at this; exact this
  | some s =>
    rw [ht] at this
    obtain ⟨g, o, c, h1, h2⟩ := this
    exact ⟨g, o, c, h1, h2.kept hg⟩⟩
theorem EpAt.cell {W : World} {N g : Nat} {cs : Array Value} {t : Nat → Hold} (h : EpAt W N g cs t) {e i : Nat} (he : e < 65) (hi : i < 8) : ∃ A n c, W.cell? ⟨g, e * 8 + i, none⟩ = some (.slice A n c) ∧ (A.isNone = (t e i).isNone) := by
  have := h.2.2 e i he hi
  have hc := h.1.cell (e * 8 + i)
  cases ht : t e i with
  | none => rw [ht] at this; exact ⟨none, 0, 0, by rw [hc]; exact this, rfl⟩
  | some s =>
    rw [ht] at this
    obtain ⟨g, o, c, h1, h2⟩ := this
    exact ⟨_, _, _, by rw [hc]; exact h1, rfl⟩
theorem EpAt.put {W : World} {N g : Nat} {cs : Array Value} {t : Nat → Hold} (h : EpAt W N g cs t) (hN : N ≤ g) {e a : Nat} (he : e < 65) (ha : a < 8) {s : List (Int × Int)} {g2 o2 c2 : Nat} (hs : Sl encP (fun b => b < N) W (.slice (some ⟨g2, o2, none⟩) s.length c2) s) :
    EpAt (W.setCell ⟨g, e * 8 + a, none⟩ (.slice (some ⟨g2, o2, none⟩) s.length c2)) N g (cs.setIfInBounds (e * 8 + a) (.slice (some ⟨g2, o2, none⟩) s.length c2)) (fun e' i => if e' = e ∧ i = a then some s else t e' i) := by
  have hgr := grownSetE W g (e * 8 + a) (.slice (some ⟨g2, o2, none⟩) s.length c2)
  have hne : ∀ b, b < N → some b ≠ some g := fun b hb e => by injection e with e; omega
  refine ⟨h.1.set _ _, by simp [h.2.1], fun e' i he' hi => ?_⟩
  dsimp only
  by_cases hc : e' = e ∧ i = a
  · obtain ⟨rfl, rfl⟩ := hc
    rw [if_pos ⟨rfl, rfl⟩]
    refine ⟨g2, o2, c2, ?_, hs.keep hgr hne⟩
    rw [Array.getElem?_setIfInBounds_self_of_lt (by rw [h.2.1]; omega)]
  · rw [if_neg hc]
    have hx : e * 8 + a ≠ e' * 8 + i := by omega
    have := h.2.2 e' i he' hi
    cases ht : t e' i with
    | none => rw [ht] at this; dsimp only at this ⊢; rw [Array.getElem?_setIfInBounds_ne hx]; exact this
    | some s' =>
      rw [ht] at this
      obtain ⟨g', o', c', h1, h2⟩ := this
      exact ⟨g', o', c', by rw [Array.getElem?_setIfInBounds_ne hx]; exact h1, h2.keep hgr hne⟩
theorem cellE {w w' : World} {g o : Nat} {u : Value} {row : Option Nat} (h : w.cell? ⟨g, o, none⟩ = some u) (hg : w.grownBy w' row) (hne : some g ≠ row) : w'.cell? ⟨g, o, none⟩ = some u := (World.cell?_of_block (w := w) (hg.block g (block_lt_of_cell h) hne)).trans h
theorem wp_loadAt {P : Program} {o : Oper} {a : Act} {w : World} {K : Act → World → Prop} {Q : Exit → Act → World → Prop} {t : TypeId} {x : Operand} {g : Nat} {v : Value} (ho : o.op = .load t x) (hx : a.eval x = .pointer (some ⟨g, 0, none⟩)) (hld : (loadVar t ⟨g, 0, none⟩).run P w = .ok v w) (h : K (a.put o.dst v) w) : o.wp P a w K Q := by
  unfold Oper.wp execOp
  have hs : (Instr.sureAddr (.pointer (some ⟨g, 0, none⟩))).run P w = .ok ⟨g, 0, none⟩ w := by simp [Instr.sureAddr]
  simp only [ho, Instr.loadAt, hx, Sem.run_bind, Sem.run_pure, hs, Result.andThen_ok, hld]
  exact h
theorem wp_indexV {P : Program} {o : Oper} {a : Act} {w : World} {K : Act → World → Prop} {Q : Exit → Act → World → Prop} {t : TypeId} {x i : Operand} {v u r : Value} (ho : o.op = .index t x i) (hx : a.eval x = v) (hi : a.eval i = u) (hld : (Instr.index t v u).run P w = .ok r w) (h : K (a.put o.dst r) w) : o.wp P a w K Q := by
  unfold Oper.wp execOp
  simp only [ho, hx, hi, Sem.run_bind, Sem.run_pure, Result.andThen_ok, hld]
  exact h
theorem index_row (cs : Array Value) (k : Nat) (hk : k < 65) (w : World) : (Instr.index 56 (.agg cs) (.int .i64 (k : Int))).run Tryd.prog w = .ok (.agg (cs.extract (k * 8) (k * 8 + 8))) w := by
  have hs : (sizeOf 55).run Tryd.prog w = .ok 8 w := by kernel_rfl
  simp [Instr.index, run_underlying Tryd.underlying56, asIntOf, hs, part, hk]
/-- An epoch's eight slices. -/
theorem EpAt.row {W : World} {N g : Nat} {cs : Array Value} {t : Nat → Hold} (h : EpAt W N g cs t) {e : Nat} (he : e < 65) : ∃ A0 n0 c0 A1 n1 c1 A2 n2 c2 A3 n3 c3 A4 n4 c4 A5 n5 c5 A6 n6 c6 A7 n7 c7, cs.extract (e * 8) (e * 8 + 8) = #[.slice A0 n0 c0, .slice A1 n1 c1, .slice A2 n2 c2, .slice A3 n3 c3, .slice A4 n4 c4, .slice A5 n5 c5, .slice A6 n6 c6, .slice A7 n7 c7] ∧ HoldsAt W [.slice A0 n0 c0, .slice A1 n1 c1, .slice A2 n2 c2, .slice A3 n3 c3, .slice A4 n4 c4, .slice A5 n5 c5, .slice A6 n6 c6, .slice A7 n7 c7] (t e) := by
  have key : ∀ i, i < 8 → ∃ A n c, cs[e * 8 + i]? = some (.slice A n c) := fun i hi => by
    have := h.2.2 e i he hi
    cases ht : t e i with
    | none => rw [ht] at this; exact ⟨_, _, _, this⟩
    | some s => rw [ht] at this; obtain ⟨g, o, c, h1, _⟩ := this; exact ⟨_, _, _, h1⟩
  obtain ⟨A0, n0, c0, k0⟩ := key 0 (by omega)
  obtain ⟨A1, n1, c1, k1⟩ := key 1 (by omega)
  obtain ⟨A2, n2, c2, k2⟩ := key 2 (by omega)
  obtain ⟨A3, n3, c3, k3⟩ := key 3 (by omega)
  obtain ⟨A4, n4, c4, k4⟩ := key 4 (by omega)
  obtain ⟨A5, n5, c5, k5⟩ := key 5 (by omega)
  obtain ⟨A6, n6, c6, k6⟩ := key 6 (by omega)
  obtain ⟨A7, n7, c7, k7⟩ := key 7 (by omega)
  have hat : ∀ i, i < 8 → ([Value.slice A0 n0 c0, .slice A1 n1 c1, .slice A2 n2 c2, .slice A3 n3 c3, .slice A4 n4 c4, .slice A5 n5 c5, .slice A6 n6 c6, .slice A7 n7 c7] : List Value)[i]? = cs[e * 8 + i]? := fun i hi => by
    rcases (show i = 0 ∨ i = 1 ∨ i = 2 ∨ i = 3 ∨ i = 4 ∨ i = 5 ∨ i = 6 ∨ i = 7 by omega) with rfl | rfl | rfl | rfl | rfl | rfl | rfl | rfl
    · exact k0.symm
    · exact k1.symm
    · exact k2.symm
    · exact k3.symm
    · exact k4.symm
    · exact k5.symm
    · exact k6.symm
    · exact k7.symm
  refine ⟨A0, n0, c0, A1, n1, c1, A2, n2, c2, A3, n3, c3, A4, n4, c4, A5, n5, c5, A6, n6, c6, A7, n7, c7, ?_, rfl, fun i hi => ?_⟩
  · refine Array.ext_getElem? fun i => ?_
    rw [Array.getElem?_extract]
    by_cases hi : i < 8
    · rw [if_pos (by rw [h.2.1]; omega), ← hat i hi]
      simp
    · rw [if_neg (by omega)]
      symm
      rw [Array.getElem?_eq_none_iff]
      show 8 ≤ i
      omega
  · have := h.2.2 e i he hi
    cases ht : t e i with
    | none => rw [ht] at this; dsimp only at this ⊢; rw [hat i hi]; exact this
    | some s =>
      rw [ht] at this
      obtain ⟨g, o, c, h1, h2⟩ := this
      exact ⟨g, o, c, by rw [hat i hi]; exact h1, h2.more fun _ _ _ => trivial⟩
theorem zeroE (w : World) : (zeroValue 56).run Tryd.prog w = .ok (.agg (Array.replicate 520 (.slice none 0 0))) w := by kernel_rfl
end Go.Proofs.YtlhjbllfcbojmaaDoor

namespace Go.Proofs.YtlhjbllfcbojmaaDoor
open Go Go.RowKit

/-- What pairs come to. -/
def comeP (Q : Int) : List (Int × Int) → List Int → Int × Int → Int × Int
  | x :: l, k :: ks, a => comeP Q l ks (addI a.1 (mulI x.1 k Q) Q, addI a.2 (mulI x.2 k Q) Q)
  | _, _, a => a
theorem comeP_snoc (Q : Int) : ∀ (l : List (Int × Int)) (ks : List Int) (a : Int × Int) (j : Nat) (h : j < l.length) (h' : j < ks.length), comeP Q (l.take (j + 1)) (ks.take (j + 1)) a = (addI (comeP Q (l.take j) (ks.take j) a).1 (mulI l[j].1 ks[j] Q) Q, addI (comeP Q (l.take j) (ks.take j) a).2 (mulI l[j].2 ks[j] Q) Q)
  | x :: l, k :: ks, a, 0, _, _ => by simp [comeP]
  | x :: l, k :: ks, a, j + 1, h, h' => by
    simp only [List.take_succ_cons, comeP, List.getElem_cons_succ]
    exact comeP_snoc Q l ks _ j (by simpa using h) (by simpa using h')
theorem comeP_take (Q : Int) : ∀ (l : List (Int × Int)) (ks : List Int) (a : Int × Int), comeP Q l (ks.take l.length) a = comeP Q l ks a
  | [], _, _ => by simp [comeP]
  | _ :: _, [], _ => by simp [comeP]
  | x :: l, k :: ks, a => by simp only [List.length_cons, List.take_succ_cons, comeP]; exact comeP_take Q l ks _
set_option maxRecDepth 100000 in
set_option maxHeartbeats 1000000 in
theorem comeP_any (p : Par) (gp : Nat) (vl vk : Value) (l : List (Int × Int)) (ks : List Int) (a : Int × Int) (X Y : Nat → Prop) (w : World) (hb : Bk w gp 24 p.cells) (hl : Sl encP X w vl l) (hk : Sl encU Y w vk ks) (hlen : l.length ≤ ks.length) (ha : U64 a.1) (ha2 : U64 a.2) (hau : ∀ x y, U64 (addI x y p.Q)) (hmu : ∀ x y, U64 (mulI x y p.Q)) :
    Calls Tryd.prog 72 #[vl, vk, .agg #[.int .u64 a.1, .int .u64 a.2], .func (.func 69) #[] #[.pointer (some ⟨gp, 0, none⟩)], .func (.func 70) #[] #[.pointer (some ⟨gp, 0, none⟩)]] w fun e w' => e = .returned (.agg #[.int .u64 (comeP p.Q l ks a).1, .int .u64 (comeP p.Q l ks a).2]) ∧ w.grownBy w' none := by
  have HB := Lib.hid hb
  have HL := Lib.hid hl
  have HK := Lib.hid hk
  have HLN := Lib.hid hlen
  have HAU := Lib.hid hau
  have HMU := Lib.hid hmu
  have HST : Hid (Bk ((w.alloc (.cells #[.int .u64 a.1, .int .u64 a.2] 26)).alloc (.cells #[.int .u64 0, .int .u64 0] 26)) w.heap.size 26 #[.int .u64 a.1, .int .u64 a.2] ∧ Bk ((w.alloc (.cells #[.int .u64 a.1, .int .u64 a.2] 26)).alloc (.cells #[.int .u64 0, .int .u64 0] 26)) (w.heap.size + 1) 26 #[.int .u64 0, .int .u64 0] ∧ Below w.heap.size w ((w.alloc (.cells #[.int .u64 a.1, .int .u64 a.2] 26)).alloc (.cells #[.int .u64 0, .int .u64 0] 26)) ∧ U64 a.1 ∧ U64 a.2 ∧ a = comeP p.Q (l.take 0) (ks.take 0) a) := Lib.hid ⟨(Bk.new w _ _).alloc _, (by have := Bk.new (w.alloc (.cells #[.int .u64 a.1, .int .u64 a.2] 26)) 26 #[.int .u64 0, .int .u64 0]; simpa using this), below_grown ((World.grownBy_alloc w _ none).trans (World.grownBy_alloc _ _ none)), ha, ha2, by simp [comeP]⟩
  obtain ⟨A, c, rfl, hc1, hc2⟩ := hl.form
  obtain ⟨A2, c2, rfl, hc3, hc4⟩ := hk.form
  clear hb hl hk hlen ha ha2 hau hmu
  go_enter Tryd.func72, Tryd.ntmps72
  go_wp2_with fail
  go_loopg [15] l.length (fun g s15 wx => ∃ (j : Nat) (b : Int × Int), j + g = l.length ∧ s15 = .int .i64 j ∧ Hid (Bk wx w.heap.size 26 #[.int .u64 b.1, .int .u64 b.2] ∧ Bk wx (w.heap.size + 1) 26 #[.int .u64 0, .int .u64 0] ∧ Below w.heap.size w wx ∧ U64 b.1 ∧ U64 b.2 ∧ b = comeP p.Q (l.take j) (ks.take j) a))
  case atStart => exact ⟨0, a, by omega, rfl, HST⟩
  case round =>
    obtain ⟨j, b, hj, rfl, HX⟩ := hrel
    clear HST
    cases gk with
    | zero =>
      obtain rfl : j = l.length := by omega
      have HE : Hid (b = comeP p.Q l ks a) := Lib.hid (by rw [HX.out.2.2.2.2.2, List.take_length, comeP_take])
      have h00 := HX.out.1.cell 0
      have h01 := HX.out.1.cell 1
      have h10 := HX.out.2.1.cell 0
      have h11 := HX.out.2.1.cell 1
      have f10 := HX.out.2.1.free 0
      have f11 := HX.out.2.1.free 1
      have hk5 := (HX.out.2.1.set 0 (.int .u64 b.1)).set 1 (.int .u64 b.2)
      have hk0 := hk5.cell 0
      have hk1 := hk5.cell 1
      simp at h00 h01 h10 h11 hk0 hk1
      have HF : Hid (w.grownBy ((wr.setCell ⟨w.heap.size + 1, 0, none⟩ (.int .u64 b.1)).setCell ⟨w.heap.size + 1, 1, none⟩ (.int .u64 b.2)) none) := Lib.hid (grown_of_below ((HX.out.2.2.1.setCell (p := ⟨w.heap.size + 1, 0, none⟩) (by simp) _).setCell (p := ⟨w.heap.size + 1, 1, none⟩) (by simp) _))
      clear HX hk5
      go_wp2_with fail
      refine bodyPost_ret (v := .agg #[.int .u64 b.1, .int .u64 b.2]) (by simp [results, Tryd.results72, go_sem, *]) rfl ⟨by rw [HE.out], HF.out⟩
    | succ m =>
      have hjn : (j : Int) < (l.length : Int) := by omega
      have hjN : j < l.length := by omega
      have hjK : j < ks.length := Nat.lt_of_lt_of_le hjN HLN.out
      have hjk : (j : Int) < (ks.length : Int) := by omega
      have hg := grown_of_below HX.out.2.2.1
      obtain ⟨g, o, c', e, _, _, hcu, hcu1, hux, hux1⟩ := (HL.out.kept hg).atP hjN
      injection e with e1 e2 e3
      subst e1 e3
      obtain ⟨g2, o2, c2', e, _, _, hcu2, huk⟩ := HK.out.atU hjK
      injection e with e1 e2 e3
      subst e1 e3
      have HSN : Hid (comeP p.Q (l.take (j + 1)) (ks.take (j + 1)) a = (addI b.1 (mulI l[j].1 ks[j] p.Q) p.Q, addI b.2 (mulI l[j].2 ks[j] p.Q) p.Q)) := Lib.hid (by rw [comeP_snoc _ _ _ _ _ hjN hjK, ← HX.out.2.2.2.2.2])
      have HKC0 := Lib.hid hcu2
      have HUX : Hid (U64 l[j].1 ∧ U64 l[j].2 ∧ U64 ks[j]) := Lib.hid ⟨hux, hux1, huk⟩
      clear hcu2 hux hux1 huk hg
      obtain ⟨b1, b2⟩ := b
      generalize l[j] = x at *
      obtain ⟨x1, x2⟩ := x
      generalize ks[j] = k at *
      generalize l.length = n at *
      generalize ks.length = n2 at *
      dsimp only at hcu hcu1
      have HHX := HX
      clear HX
      go_wp2_with fail
      obtain ⟨W, hW⟩ : ∃ W, W = wr.alloc (Obj.cells #[.int .u64 x1, .int .u64 x2] 26) := ⟨_, rfl⟩
      rw [← hW]
      have HB0 : Hid (Bk W.drew w.heap.size 26 #[.int .u64 b1, .int .u64 b2]) := Lib.hid (by rw [hW]; exact HHX.out.1.alloc _)
      have HB1 : Hid (Bk W.drew (w.heap.size + 1) 26 #[.int .u64 0, .int .u64 0]) := Lib.hid (by rw [hW]; exact HHX.out.2.1.alloc _)
      have HY0 : Hid (Bk W.drew wr.heap.size 26 #[.int .u64 x1, .int .u64 x2]) := Lib.hid (by rw [hW]; exact Bk.new wr _ _)
      have hBL := HHX.out.2.2.1
      have HGW : Hid (w.grownBy W.drew none) := Lib.hid (by rw [hW]; exact ((grown_of_below hBL).trans (World.grownBy_alloc _ _ none)).trans (grown_drewN' _ 1))
      have HKC : Hid (∀ w', W.drew.grownBy w' none → w'.cell? ⟨g2, o2 + j, none⟩ = some (.int .u64 k)) := Lib.hid (fun w' hw' => cell_kept HKC0.out (HGW.out.trans hw') (by simp))
      have HGP : Hid (Bk W.drew gp 24 p.cells) := Lib.hid (HB.out.grown HGW.out (by simp))
      have H2 : Hid (∀ w', W.drew.grownBy w' none → Calls Tryd.prog 69 #[.agg #[.int .u64 x1, .int .u64 x2], .int .u64 k, .pointer (some ⟨gp, 0, none⟩)] w' fun e w'' => e = .returned (.agg #[.int .u64 (mulI x1 k p.Q), .int .u64 (mulI x2 k p.Q)]) ∧ w'.grownBy w'' none) := Lib.hid (fun w' hw' => sum2_any p gp (x1, x2) k w' (HGP.out.grown hw' (by simp)) HUX.out.1 HUX.out.2.1 HUX.out.2.2 trivial)
      have H3 : Hid (∀ w', W.drew.grownBy w' none → Calls Tryd.prog 70 #[.agg #[.int .u64 b1, .int .u64 b2], .agg #[.int .u64 (mulI x1 k p.Q), .int .u64 (mulI x2 k p.Q)], .pointer (some ⟨gp, 0, none⟩)] w' fun e w'' => e = .returned (.agg #[.int .u64 (addI b1 (mulI x1 k p.Q) p.Q), .int .u64 (addI b2 (mulI x2 k p.Q) p.Q)]) ∧ w'.grownBy w'' none) := Lib.hid (fun w' hw' => sum3_any p gp (b1, b2) (mulI x1 k p.Q, mulI x2 k p.Q) w' (HGP.out.grown hw' (by simp)) HHX.out.2.2.2.1 HHX.out.2.2.2.2.1 (HMU.out _ _) (HMU.out _ _))
      clear hW hBL hcu hcu1
      refine wp_region_mono 10 (by kernel_rfl) (by kernel_rfl) ?_
      refine MonoR.step (Pv.eq (.func (.func 70) #[] #[.pointer (some ⟨gp, 0, none⟩)])) [] (by kernel_rfl) (fun w' hw' => ?_) ?_
      · refine ask_do rfl fun K hK => ?_
        go_simp
        exact hK _ _ rfl rfl (World.grownBy.refl _ none)
      refine MonoR.step (Pv.eq (.agg #[.int .u64 (b1), .int .u64 (b2)])) [] (by kernel_rfl) (fun w' hw' => ?_) ?_
      · refine ask_do rfl fun K hK => ?_
        have hb0 := (HB0.out.grown hw' (by simp)).cell 0
        have hb1 := (HB0.out.grown hw' (by simp)).cell 1
        have hy0 := (HY0.out.grown hw' (by simp)).cell 0
        have hy1 := (HY0.out.grown hw' (by simp)).cell 1
        have hkc := HKC.out w' hw'
        simp at hb0 hb1 hy0 hy1
        go_simp
        exact hK _ _ rfl rfl (World.grownBy.refl _ none)
      refine MonoR.step (Pv.eq (.func (.func 69) #[] #[.pointer (some ⟨gp, 0, none⟩)])) [] (by kernel_rfl) (fun w' hw' => ?_) ?_
      · refine ask_do rfl fun K hK => ?_
        go_simp
        exact hK _ _ rfl rfl (World.grownBy.refl _ none)
      refine MonoR.step (Pv.eq (.agg #[.int .u64 (x1), .int .u64 (x2)])) [] (by kernel_rfl) (fun w' hw' => ?_) ?_
      · refine ask_do rfl fun K hK => ?_
        have hb0 := (HB0.out.grown hw' (by simp)).cell 0
        have hb1 := (HB0.out.grown hw' (by simp)).cell 1
        have hy0 := (HY0.out.grown hw' (by simp)).cell 0
        have hy1 := (HY0.out.grown hw' (by simp)).cell 1
        have hkc := HKC.out w' hw'
        simp at hb0 hb1 hy0 hy1
        go_simp
        exact hK _ _ rfl rfl (World.grownBy.refl _ none)
      refine MonoR.step (Pv.eq (.slice (some ⟨g2, o2, none⟩) n2 c2)) [] (by kernel_rfl) (fun w' hw' => ?_) ?_
      · refine ask_do rfl fun K hK => ?_
        go_simp
        exact hK _ _ rfl rfl (World.grownBy.refl _ none)
      refine MonoR.step (Pv.eq (.int .i64 j)) [] (by kernel_rfl) (fun w' hw' => ?_) ?_
      · refine ask_do rfl fun K hK => ?_
        go_simp
        exact hK _ _ rfl rfl (World.grownBy.refl _ none)
      refine MonoR.step (Pv.eq (.pointer (some ⟨g2, o2 + j, none⟩))) [(4, 24), (5, 25)] (by kernel_rfl) (fun w' hw' => ?_) ?_
      · rintro _ rfl
        rintro _ rfl
        refine ask_do rfl fun K hK => ?_
        go_simp
        exact hK _ _ rfl rfl (World.grownBy.refl _ none)
      refine MonoR.step (Pv.eq (.int .u64 k)) [(6, 26)] (by kernel_rfl) (fun w' hw' => ?_) ?_
      · rintro _ rfl
        refine ask_do rfl fun K hK => ?_
        have hb0 := (HB0.out.grown hw' (by simp)).cell 0
        have hb1 := (HB0.out.grown hw' (by simp)).cell 1
        have hy0 := (HY0.out.grown hw' (by simp)).cell 0
        have hy1 := (HY0.out.grown hw' (by simp)).cell 1
        have hkc := HKC.out w' hw'
        simp at hb0 hb1 hy0 hy1
        go_simp
        exact hK _ _ rfl rfl (World.grownBy.refl _ none)
      refine MonoR.step (Pv.eq (.agg #[.int .u64 (mulI x1 k p.Q), .int .u64 (mulI x2 k p.Q)])) [(2, 22), (3, 23), (7, 27)] (by kernel_rfl) (fun w' hw' => ?_) ?_
      · rintro _ rfl
        rintro _ rfl
        rintro _ rfl
        refine ask_do rfl fun K hK => ?_
        go_simp
        refine (H2.out w' hw').mono ?_
        rintro e w3 ⟨rfl, hg⟩
        exact hK _ _ rfl rfl hg
      refine MonoR.step (Pv.eq (.agg #[.int .u64 (addI b1 (mulI x1 k p.Q) p.Q), .int .u64 (addI b2 (mulI x2 k p.Q) p.Q)])) [(0, 20), (1, 21), (8, 28)] (by kernel_rfl) (fun w' hw' => ?_) ?_
      · rintro _ rfl
        rintro _ rfl
        rintro _ rfl
        refine ask_do rfl fun K hK => ?_
        go_simp
        refine (H3.out w' hw').mono ?_
        rintro e w3 ⟨rfl, hg⟩
        exact hK _ _ rfl rfl hg
      intro w3 hw3
      intro y0 e0 y1 e1 y2 e2 y3 e3 y4 e4 y5 e5 y6 e6 y7 e7 y8 e8 y9 e9
      have e0 : y0 = .func (.func 70) #[] #[.pointer (some ⟨gp, 0, none⟩)] := e0
      subst e0
      have e1 : y1 = .agg #[.int .u64 (b1), .int .u64 (b2)] := e1
      subst e1
      have e2 : y2 = .func (.func 69) #[] #[.pointer (some ⟨gp, 0, none⟩)] := e2
      subst e2
      have e3 : y3 = .agg #[.int .u64 (x1), .int .u64 (x2)] := e3
      subst e3
      have e4 : y4 = .slice (some ⟨g2, o2, none⟩) n2 c2 := e4
      subst e4
      have e5 : y5 = .int .i64 j := e5
      subst e5
      have e6 : y6 = .pointer (some ⟨g2, o2 + j, none⟩) := e6
      subst e6
      have e7 : y7 = .int .u64 k := e7
      subst e7
      have e8 : y8 = .agg #[.int .u64 (mulI x1 k p.Q), .int .u64 (mulI x2 k p.Q)] := e8
      subst e8
      have e9 : y9 = .agg #[.int .u64 (addI b1 (mulI x1 k p.Q) p.Q), .int .u64 (addI b2 (mulI x2 k p.Q) p.Q)] := e9
      subst e9
      simp only [Act.put, List.setIfInBounds_toArray, List.set_cons_zero, List.set_cons_succ]
      have hr3 := HB0.out.grown hw3 (by simp)
      have hc0 := hr3.cell 0
      have hc1 := hr3.cell 1
      have hf0 := hr3.free 0
      have hf1 := hr3.free 1
      simp at hc0 hc1
      have HFIN : Hid (Bk ((w3.setCell ⟨w.heap.size, 0, none⟩ (.int .u64 (addI b1 (mulI x1 k p.Q) p.Q))).setCell ⟨w.heap.size, 1, none⟩ (.int .u64 (addI b2 (mulI x2 k p.Q) p.Q))) w.heap.size 26 #[.int .u64 (addI b1 (mulI x1 k p.Q) p.Q), .int .u64 (addI b2 (mulI x2 k p.Q) p.Q)] ∧ Bk ((w3.setCell ⟨w.heap.size, 0, none⟩ (.int .u64 (addI b1 (mulI x1 k p.Q) p.Q))).setCell ⟨w.heap.size, 1, none⟩ (.int .u64 (addI b2 (mulI x2 k p.Q) p.Q))) (w.heap.size + 1) 26 #[.int .u64 0, .int .u64 0] ∧ Below w.heap.size w ((w3.setCell ⟨w.heap.size, 0, none⟩ (.int .u64 (addI b1 (mulI x1 k p.Q) p.Q))).setCell ⟨w.heap.size, 1, none⟩ (.int .u64 (addI b2 (mulI x2 k p.Q) p.Q))) ∧ U64 (addI b1 (mulI x1 k p.Q) p.Q) ∧ U64 (addI b2 (mulI x2 k p.Q) p.Q) ∧ (addI b1 (mulI x1 k p.Q) p.Q, addI b2 (mulI x2 k p.Q) p.Q) = comeP p.Q (l.take (j + 1)) (ks.take (j + 1)) a) := Lib.hid ⟨by have := (hr3.set 0 (.int .u64 (addI b1 (mulI x1 k p.Q) p.Q))).set 1 (.int .u64 (addI b2 (mulI x2 k p.Q) p.Q)); simpa using this, ((HB1.out.grown hw3 (by simp)).far (p := ⟨w.heap.size, 0, none⟩) (by simp) _).far (p := ⟨w.heap.size, 1, none⟩) (by simp) _, (((below_grown (HGW.out.trans hw3))).setCell (p := ⟨w.heap.size, 0, none⟩) (by simp) _).setCell (p := ⟨w.heap.size, 1, none⟩) (by simp) _, HAU.out _ _, HAU.out _ _, HSN.out.symm⟩
      clear hw3 hr3
      refine wpList_plain rfl fun K hK => ?_
      go_simp
      refine hK _ _ (wpList_nil ?_)
      go_wp2_with fail
      go_roundg m
      case measure => omega
      case rel => exact ⟨j + 1, (addI b1 (mulI x1 k p.Q) p.Q, addI b2 (mulI x2 k p.Q) p.Q), by omega, by go_num, HFIN⟩
end Go.Proofs.YtlhjbllfcbojmaaDoor

namespace Go.Proofs.YtlhjbllfcbojmaaDoor
open Go Go.RowKit

/-- What is wrong with a sum. -/
noncomputable def sumE (p : Par) (at_ : List Int) (l : List (List (Int × Int))) : Int := if smallB p && membersB at_ && at_.length == l.length && !l.any (fun x => oddB p x) then wErr p.Q at_ 0 else 1
/-- What pairs of members come to. -/
noncomputable def sumL (p : Par) (at_ : List Int) (l : List (List (Int × Int))) : List (Int × Int) := if sumE p at_ l = 0 then (List.range (secretsI p).toNat).map fun s => comeP p.Q (l.map fun x => x[s]?.getD (0, 0)) (wList p.Q at_ 0) (0, 0) else []
theorem wrap64_small {n : Int} (h : -9223372036854775808 ≤ n ∧ n ≤ 9223372036854775807) : wrap64 n = n := by unfold wrap64; omega
theorem addI_u64 (a b m : Int) (hm : mayB m = true) : U64 (addI a b m) := by
  unfold addI
  rw [if_pos hm]
  simp [mayB] at hm
  have h1 := Int.emod_nonneg (a % m + b % m) (show m ≠ 0 by omega)
  have h2 := Int.emod_lt_of_pos (a % m + b % m) hm.1
  exact ⟨h1, by omega⟩
theorem comeP_U64 (Q : Int) (h : ∀ x y, U64 (addI x y Q)) : ∀ (l : List (Int × Int)) (ks : List Int) (a : Int × Int), U64 a.1 → U64 a.2 → U64 (comeP Q l ks a).1 ∧ U64 (comeP Q l ks a).2
  | [], _, _, h1, h2 => ⟨h1, h2⟩
  | _ :: _, [], _, h1, h2 => ⟨h1, h2⟩
  | _ :: l, _ :: ks, _, _, _ => comeP_U64 Q h l ks _ (h _ _) (h _ _)
theorem smallB_secrets {p : Par} (h : smallB p = true) : 0 ≤ secretsI p ∧ secretsI p ≤ 10 := by
  simp [smallB] at h
  obtain ⟨h1, h2, h3, h4⟩ := h
  have e1 : wrap64 (p.D + 1) = p.D + 1 := wrap64_small (by omega)
  have h5 : 0 ≤ p.K * (p.D + 1) := Int.mul_nonneg h1 (by omega)
  have h6 : p.K * (p.D + 1) ≤ 2 * 5 := Int.mul_le_mul h3 (by omega) (by omega) (by omega)
  have e2 : secretsI p = p.K * (p.D + 1) := by unfold secretsI; rw [e1]; exact wrap64_small (by omega)
  rw [e2]
  omega
set_option maxRecDepth 100000 in
set_option maxHeartbeats 1000000 in
theorem sum_any (p : Par) (va : Value) (at_ : List Int) (vl : Value) (l : List (List (Int × Int))) (X Y : Nat → Prop) (w : World) (hp : p.ok) (ha : Sl encI X w va at_) (hl : Sl (encS encP) Y w vl l) (hb1 : at_.length ≤ 100000) (hb2 : l.length ≤ 100000) :
    Calls Tryd.prog 32 #[p.v, va, vl] w (GivesE encP (fun g => w.heap.size ≤ g) w (sumL p at_ l) (sumE p at_ l)) := by
  have HB : Hid (Bk (w.alloc (.cells p.cells 24)) w.heap.size 24 p.cells) := Lib.hid (Bk.new w _ _)
  have HG0 : Hid (w.grownBy (w.alloc (.cells p.cells 24)) none) := Lib.hid (World.grownBy_alloc w _ none)
  have HS1 := Lib.hid (ssmall_any p)
  have HS2 : Hid (∀ w', w.grownBy w' none → _) := Lib.hid (fun w' hw => members_any va at_ X w' (ha.kept hw))
  have HS4 : Hid (∀ w', w.grownBy w' none → Bk w' w.heap.size 24 p.cells → _) := Lib.hid (fun w' hw hbk => containsOdd p w.heap.size vl l Y w' hbk (hl.kept hw))
  have HA := Lib.hid ha
  have HL := Lib.hid hl
  have HQ := Lib.hid hp.Q
  obtain ⟨A, c, rfl, _, _⟩ := ha.form
  obtain ⟨A2, c2, rfl, _, _⟩ := hl.form
  clear ha hl hp
  cases b1 : smallB p with
  | false =>
    have h1 : sumE p at_ l = 1 := by simp [sumE, b1]
    have HL0 : Hid (sumL p at_ l = []) := Lib.hid (by simp [sumL, h1])
    rw [h1]
    clear h1
    rw [b1] at HS1
    clear b1 HS2 HS4 HA HL
    go_enter Tryd.func32, Tryd.ntmps32
    go_wp2_with fail
    refine (HS1.out _).mono ?_
    rintro e w1 ⟨rfl, hg1⟩
    have HG1 := Lib.hid (HG0.out.trans hg1)
    have HB1 := Lib.hid (HB.out.grown hg1 (by simp))
    clear hg1
    go_wp2_with fail
    go_ret2
    exact ⟨_, rfl, by rw [HL0.out]; exact Sl.nil _ _ _, HG1.out⟩
  | true =>
    cases b2 : membersB at_ with
    | false =>
      have h1 : sumE p at_ l = 1 := by simp [sumE, b2]
      have HL0 : Hid (sumL p at_ l = []) := Lib.hid (by simp [sumL, h1])
      rw [h1]
      clear h1
      rw [b1] at HS1
      rw [b2] at HS2
      clear b1 b2 HS4 HA HL
      go_enter Tryd.func32, Tryd.ntmps32
      go_wp2_with fail
      refine (HS1.out _).mono ?_
      rintro e w1 ⟨rfl, hg1⟩
      have HG1 := Lib.hid (HG0.out.trans hg1)
      have HB1 := Lib.hid (HB.out.grown hg1 (by simp))
      clear hg1
      go_wp2_with fail
      refine (HS2.out _ HG1.out).mono ?_
      rintro e w2 ⟨rfl, hg2⟩
      have HG2 := Lib.hid (HG1.out.trans hg2)
      have HB2 := Lib.hid (HB1.out.grown hg2 (by simp))
      clear hg2
      go_wp2_with fail
      go_ret2
      exact ⟨_, rfl, by rw [HL0.out]; exact Sl.nil _ _ _, HG2.out⟩
    | true =>
      rw [b1] at HS1
      rw [b2] at HS2
      by_cases h3 : at_.length = l.length
      · have d3 : ((at_.length : Int) != (l.length : Int)) = false := by simp [h3]
        cases b4 : l.any fun x => oddB p x with
        | true =>
          have h1 : sumE p at_ l = 1 := by unfold sumE; rw [b4]; simp
          have HL0 : Hid (sumL p at_ l = []) := Lib.hid (by simp [sumL, h1])
          rw [h1]
          clear h1
          rw [b4] at HS4
          clear b1 b2 b4 h3 HA HL
          generalize at_.length = n1 at *
          generalize l.length = n2 at *
          go_enter Tryd.func32, Tryd.ntmps32
          go_wp2_with fail
          refine (HS1.out _).mono ?_
          rintro e w1 ⟨rfl, hg1⟩
          have HG1 := Lib.hid (HG0.out.trans hg1)
          have HB1 := Lib.hid (HB.out.grown hg1 (by simp))
          clear hg1
          go_wp2_with fail
          refine (HS2.out _ HG1.out).mono ?_
          rintro e w2 ⟨rfl, hg2⟩
          have HG2 := Lib.hid (HG1.out.trans hg2)
          have HB2 := Lib.hid (HB1.out.grown hg2 (by simp))
          clear hg2
          go_wp2_with fail
          refine (HS4.out _ HG2.out HB2.out).mono ?_
          rintro e w3 ⟨rfl, hg3⟩
          have HG3 := Lib.hid (HG2.out.trans hg3)
          have HB3 := Lib.hid (HB2.out.grown hg3 (by simp))
          have hp3 := HB3.out.prule
          clear hg3
          go_wp2_with fail
          go_ret2
          exact ⟨_, rfl, by rw [HL0.out]; exact Sl.nil _ _ _, HG3.out⟩
        | false =>
          have h1 : sumE p at_ l = wErr p.Q at_ 0 := by unfold sumE; rw [b1, b2, b4]; simp [h3]
          obtain ⟨hn0, hm⟩ := membersB_yes b2
          have HW : Hid (∀ w', w.grownBy w' none → _) := Lib.hid (fun w' hw => sweights_any _ at_ p.Q X w' (HA.out.kept hw) hm HQ.out hb1)
          rw [b4] at HS4
          have hsec := smallB_secrets b1
          have HSE := Lib.hid (ssecrets_any p)
          obtain ⟨we, hwe⟩ : ∃ we, we = wErr p.Q at_ 0 := ⟨_, rfl⟩
          obtain ⟨wl, hwl⟩ : ∃ wl, wl = wList p.Q at_ 0 := ⟨_, rfl⟩
          rw [← hwe, ← hwl] at HW
          rw [← hwe] at h1
          by_cases he : we = 0
          · subst he
            obtain ⟨N, hN⟩ : ∃ N, N = (secretsI p).toNat := ⟨_, rfl⟩
            have HN : Hid (secretsI p = (N : Int) ∧ N ≤ 10) := Lib.hid (by omega)
            have HLL : Hid (sumL p at_ l = (List.range N).map (fun s => comeP p.Q (l.map fun x => x[s]?.getD (0, 0)) wl (0, 0))) := Lib.hid (by rw [sumL, if_pos h1, hwl, hN])
            have hun : unlikeI at_ p.Q = 0 := by
              refine Classical.byContradiction fun hx => hx ?_
              have h2 := hwe
              unfold wErr at h2
              rw [if_neg hx] at h2
              exact h2.symm
            have HM := Lib.hid (unlikeI_zero hun).1
            have HWLN : Hid (l.length ≤ wl.length) := Lib.hid (by rw [hwl, wList, if_pos hwe.symm, List.length_map, List.length_range, h3]; exact Nat.le_refl _)
            have HAL : Hid (∀ s w', s < N → w.grownBy w' none → _) := Lib.hid (fun s w' (hs : s < N) (hw : w.grownBy w' none) => allP_any _ l s Y w' (HL.out.kept hw) (fun x hx => by
              have hb := List.any_eq_false.1 b4 x hx
              simp [oddB] at hb
              have := HN.out.1
              omega) hb2 (by have := HN.out.2; omega))
            have HAU : Hid (∀ x y, U64 (addI x y p.Q)) := Lib.hid (fun x y => addI_u64 x y _ HM.out)
            have HMU : Hid (∀ x y, U64 (mulI x y p.Q)) := Lib.hid (fun x y => by have h5 := mulI_bd x y p.Q HM.out; have h6 := HM.out; simp [mayB] at h6; exact ⟨h5.1, by omega⟩)
            rw [HN.out.1] at HSE
            rw [h1]
            clear h1 hwe hwl b1 b2 b4 h3 hn0 hm hsec hN hun HA
            generalize hn1 : at_.length = n1 at *
            generalize hn2 : l.length = n2 at *
            clear hn1
            go_enter Tryd.func32, Tryd.ntmps32
            go_wp2_with fail
            refine (HS1.out _).mono ?_
            rintro e w1 ⟨rfl, hg1⟩
            have HG1 := Lib.hid (HG0.out.trans hg1)
            have HB1 := Lib.hid (HB.out.grown hg1 (by simp))
            clear hg1
            go_wp2_with fail
            refine (HS2.out _ HG1.out).mono ?_
            rintro e w2 ⟨rfl, hg2⟩
            have HG2 := Lib.hid (HG1.out.trans hg2)
            have HB2 := Lib.hid (HB1.out.grown hg2 (by simp))
            clear hg2
            go_wp2_with fail
            refine (HS4.out _ HG2.out HB2.out).mono ?_
            rintro e w3 ⟨rfl, hg3⟩
            have HG3 := Lib.hid (HG2.out.trans hg3)
            have HB3 := Lib.hid (HB2.out.grown hg3 (by simp))
            have hp3 := HB3.out.prule
            clear hg3
            go_wp2_with fail
            refine (HW.out _ HG3.out).mono ?_
            rintro e w4 ⟨vw, rfl, hsw, hg4⟩
            have HG4 := Lib.hid (HG3.out.trans hg4)
            have HB4 := Lib.hid (HB3.out.grown hg4 (by simp))
            have hp4 := HB4.out.prule
            have HSW := Lib.hid hsw
            clear hg4 hsw hp3
            go_wp2_with fail
            refine (HSE.out _).mono ?_
            rintro e w5 ⟨rfl, hg5⟩
            have HG5 := Lib.hid (HG4.out.trans hg5)
            have HB5 := Lib.hid (HB4.out.grown hg5 (by simp))
            have HSW5 := Lib.hid (HSW.out.kept hg5)
            clear hg5 hp4
            go_wp2_with fail
            go_loopg [13, 50] N (fun g s13 s50 wx => ∃ j : Nat, j + g = N ∧ s50 = .int .i64 j ∧ Hid (Acc encP w5.heap.size 26 (fun g => w.heap.size ≤ g) wx s13 ((List.range j).map (fun s => comeP p.Q (l.map fun x => x[s]?.getD (0, 0)) wl (0, 0))) ∧ w5.grownBy wx none))
            case atStart => exact ⟨0, by omega, rfl, Lib.hid ⟨Acc.nil _ _ _ _ _, World.grownBy.refl _ none⟩⟩
            case round =>
              obtain ⟨j, hj, rfl, HX⟩ := hrel
              cases gk with
              | zero =>
                obtain rfl : j = N := by omega
                have HR : Hid (Sl encP (fun g => w.heap.size ≤ g) wr u13 (sumL p at_ l) ∧ w.grownBy wr none) := Lib.hid ⟨by rw [HLL.out]; exact HX.out.1.sl, HG5.out.trans HX.out.2⟩
                clear HX
                go_wp2
                go_ret2
                exact ⟨_, rfl, HR.out.1, HR.out.2⟩
              | succ m =>
                have hjn : (j : Int) < (N : Int) := by omega
                have hjN : j < N := by omega
                have hN10 : N ≤ 10 := HN.out.2
                have HSN : Hid ((List.range (j + 1)).map (fun s => comeP p.Q (l.map fun x => x[s]?.getD (0, 0)) wl (0, 0)) = (List.range j).map (fun s => comeP p.Q (l.map fun x => x[s]?.getD (0, 0)) wl (0, 0)) ++ [(fun s => comeP p.Q (l.map fun x => x[s]?.getD (0, 0)) wl (0, 0)) j]) := Lib.hid (by simp [List.range_succ])
                have HAC := Lib.hid HX.out.1
                have HG6 := Lib.hid HX.out.2
                have HLB : Hid ((((List.range j).map (fun s => comeP p.Q (l.map fun x => x[s]?.getD (0, 0)) wl (0, 0))).length + 1) * 16 ≤ 140737488355328) := Lib.hid (by have := HN.out.2; simp; omega)
                have HA6 := Lib.hid (HAL.out j wr hjN (HG5.out.trans HX.out.2))
                clear HX
                go_wp2_with fail
                refine HA6.out.mono ?_
                rintro e w7 ⟨v7, rfl, hs7, hg7⟩
                have HG7 := Lib.hid (HG6.out.trans hg7)
                have HAC7 := Lib.hid (HAC.out.kept hg7)
                have HC := Lib.hid (comeP_any p w.heap.size v7 vw _ wl (0, 0) _ _ w7 (HB5.out.grown HG7.out (by simp)) hs7 (HSW5.out.kept HG7.out) (by rw [List.length_map, hn2]; exact HWLN.out) ⟨by decide, by decide⟩ ⟨by decide, by decide⟩ HAU.out HMU.out)
                obtain ⟨A7, c7, e7, _, _⟩ := hs7.form
                subst e7
                clear hs7 hg7
                have hlenc : (l.map fun x => x[j]?.getD (0, 0)).length = n2 := by rw [List.length_map, hn2]
                rw [hlenc] at HC ⊢
                clear hlenc
                obtain ⟨r, hr⟩ : ∃ r, r = comeP p.Q (l.map fun x => x[j]?.getD (0, 0)) wl (0, 0) := ⟨_, rfl⟩
                rw [← hr] at HC
                have HRU : Hid (U64 r.1 ∧ U64 r.2) := Lib.hid (by rw [hr]; exact comeP_U64 p.Q HAU.out _ _ _ ⟨by decide, by decide⟩ ⟨by decide, by decide⟩)
                have HSN2 : Hid ((List.range (j + 1)).map (fun s => comeP p.Q (l.map fun x => x[s]?.getD (0, 0)) wl (0, 0)) = (List.range j).map (fun s => comeP p.Q (l.map fun x => x[s]?.getD (0, 0)) wl (0, 0)) ++ [r]) := Lib.hid (by rw [hr]; exact HSN.out)
                clear hr
                go_wp2_with fail
                refine HC.out.mono ?_
                rintro e w8 ⟨rfl, hg8⟩
                have HG8 := Lib.hid (HG7.out.trans hg8)
                have HAC8 := Lib.hid (HAC7.out.kept hg8)
                have HWB : Hid (∀ g, w5.heap.size ≤ g → w.heap.size ≤ g) := Lib.hid (fun g h => Nat.le_trans HG5.out.size h)
                clear hg8
                go_wp2_with (at_builtin; refine wpList_pushG rfl (.tmp 53) (.tmp 62) rfl (E := encP) el_pair HG8.out HAC8.out HWB.out ⟨rfl, HRU.out⟩ HLB.out rfl rfl ?_)
                intro v2 w9 hacc2 hg9 hgo
                have HFIN : Hid (Acc encP w5.heap.size 26 (fun g => w.heap.size ≤ g) w9 v2 ((List.range (j + 1)).map (fun s => comeP p.Q (l.map fun x => x[s]?.getD (0, 0)) wl (0, 0))) ∧ w5.grownBy w9 none) := Lib.hid ⟨by rw [HSN2.out]; simpa using hacc2, hg9⟩
                clear hacc2 hg9 hgo
                go_wp2_with fail
                go_roundg m
                case measure => omega
                case rel => exact ⟨j + 1, by omega, by go_num, HFIN⟩
          · have HL0 : Hid (sumL p at_ l = []) := Lib.hid (by simp [sumL, h1, he])
            rw [h1]
            clear h1 hwe hwl b1 b2 b4 h3 hn0 hm hsec HA HL
            generalize at_.length = n1 at *
            generalize l.length = n2 at *
            go_enter Tryd.func32, Tryd.ntmps32
            go_wp2_with fail
            refine (HS1.out _).mono ?_
            rintro e w1 ⟨rfl, hg1⟩
            have HG1 := Lib.hid (HG0.out.trans hg1)
            have HB1 := Lib.hid (HB.out.grown hg1 (by simp))
            clear hg1
            go_wp2_with fail
            refine (HS2.out _ HG1.out).mono ?_
            rintro e w2 ⟨rfl, hg2⟩
            have HG2 := Lib.hid (HG1.out.trans hg2)
            have HB2 := Lib.hid (HB1.out.grown hg2 (by simp))
            clear hg2
            go_wp2_with fail
            refine (HS4.out _ HG2.out HB2.out).mono ?_
            rintro e w3 ⟨rfl, hg3⟩
            have HG3 := Lib.hid (HG2.out.trans hg3)
            have HB3 := Lib.hid (HB2.out.grown hg3 (by simp))
            have hp3 := HB3.out.prule
            clear hg3
            go_wp2_with fail
            refine (HW.out _ HG3.out).mono ?_
            rintro e w4 ⟨vw, rfl, hsw, hg4⟩
            have HG4 := Lib.hid (HG3.out.trans hg4)
            clear hsw hg4 hp3
            go_wp2_with fail
            go_ret2
            exact ⟨_, rfl, by rw [HL0.out]; exact Sl.nil _ _ _, HG4.out⟩
      · have d3 : ((at_.length : Int) != (l.length : Int)) = true := by simp; omega
        have h1 : sumE p at_ l = 1 := by simp [sumE, h3]
        have HL0 : Hid (sumL p at_ l = []) := Lib.hid (by simp [sumL, h1])
        rw [h1]
        clear h1
        clear b1 b2 h3 HA HL HS4
        generalize at_.length = n1 at *
        generalize l.length = n2 at *
        go_enter Tryd.func32, Tryd.ntmps32
        go_wp2_with fail
        refine (HS1.out _).mono ?_
        rintro e w1 ⟨rfl, hg1⟩
        have HG1 := Lib.hid (HG0.out.trans hg1)
        have HB1 := Lib.hid (HB.out.grown hg1 (by simp))
        clear hg1
        go_wp2_with fail
        refine (HS2.out _ HG1.out).mono ?_
        rintro e w2 ⟨rfl, hg2⟩
        have HG2 := Lib.hid (HG1.out.trans hg2)
        have HB2 := Lib.hid (HB1.out.grown hg2 (by simp))
        clear hg2
        go_wp2_with fail
        go_ret2
        exact ⟨_, rfl, by rw [HL0.out]; exact Sl.nil _ _ _, HG2.out⟩
end Go.Proofs.YtlhjbllfcbojmaaDoor

namespace Go.Proofs.YtlhjbllfcbojmaaDoor.FR
open Go

/-- Where the worlds stand when some late operations are over, these having told values; and what the k-th of them does to what lay there. -/
structure Lt where
  C : List (Nat × Value) → World → Prop
  R : Nat → Value → World → World → Prop
  G : World → World → Prop
  g : ∀ {vs w w'}, C vs w → G w w' → C vs w'
/-- What is known of a value, and stands: as long as nothing is written, and through the late operations from the fr-th on. -/
structure Qv (L : Lt) where
  p : List (Nat × Value) → Value → World → Prop
  st : ∀ {vs v w w'}, p vs v w → L.G w w' → p vs v w'
  sr : ∀ {vs q u v w w'}, L.C vs w → L.R q u w w' → p vs v w → p (vs ++ [(q, u)]) v w'
def Qv.any {L : Lt} : Qv L := ⟨fun _ _ _ => True, fun _ _ => trivial, fun _ _ _ => trivial⟩
def Qv.eq {L : Lt} (u : Value) : Qv L := ⟨fun _ v _ => v = u, fun h _ => h, fun _ _ h => h⟩
/-- What the q-th late operation has told. -/
def Qv.slot {L : Lt} (q : Nat) : Qv L := ⟨fun vs v _ => (q, v) ∈ vs, fun h _ => h, fun _ _ h => List.mem_append_left _ h⟩
section
variable {L : Lt} {late : List Nat} {P : Program} {ops : Array Oper} {Q : Exit → Act → World → Prop} {n : Nat} {a0 : Act} {w0 : World}

def ToldL (T : Value → World → Prop) (dst : Option Tmp) (ds : List Deferred) : Exit → Act → World → Prop := fun e a' w' => e = .normal ∧ a'.defers = ds ∧ T (match dst with | some d => a'.eval (.tmp d) | none => undef) w'
def Ask' (P : Program) (ops : Array Oper) (vs : List (Nat × Value)) (Vs : List (Qv L)) (Qt : Exit → Act → World → Prop) (o : Oper) (w : World) : List (Nat × Tmp) → Act → Prop
  | [], a => wpList P ops Qt [o] a w
  | (j, d) :: js, a => ∀ x, (Vs.getD j Qv.any).p vs x w → Ask' P ops vs Vs Qt o w js (a.put (some d) x)
/-- Late operations that wait for operation i, through others too. -/
def nqB (ops : Array Oper) (late : List Nat) (n i : Nat) (nq : List Nat) : Bool := nq.all fun q => match late[q]? with | some k => !av ops i n k | none => false
/-- What is asked of one operation. -/
def AskL (L : Lt) (late : List Nat) (P : Program) (ops : Array Oper) (n : Nat) (Vs : List (Qv L)) (ds : List Deferred) (i : Nat) (V : Qv L) (o : Oper) (js : List (Nat × Tmp)) (a0 : Act) : Prop :=
  (late.contains i = false ∧ ∃ nq : List Nat, nqB ops late n i nq = true ∧ ∀ vs w, (∀ x ∈ nq, x ∉ vs.map (·.1)) → L.C vs w → Ask' P ops vs Vs (ToldL (fun v w' => V.p vs v w' ∧ L.G w w') o.dst ds) o w js a0) ∨
  (∃ (q : Nat) (rq nq : List Nat), late[q]? = some i ∧ (rq.all fun x => match late[x]? with | some k => Region.waitsFor .any ops i k | none => false) = true ∧ nqB ops late n i nq = true ∧ V = Qv.slot q ∧ ∀ vs w, q ∉ vs.map (·.1) → (∀ x ∈ rq, x ∈ vs.map (·.1)) → (∀ x ∈ nq, x ∉ vs.map (·.1)) → L.C vs w → Ask' P ops vs Vs (ToldL (fun v w' => L.R q v w w' ∧ L.C (vs ++ [(q, v)]) w') o.dst ds) o w js a0)
def LateR (L : Lt) (late : List Nat) (P : Program) (ops : Array Oper) (n : Nat) (a0 : Act) (F : List (Qv L) → Prop) : Nat → List (Qv L) → List Oper → Prop
  | 0, Rs, _ => F Rs.reverse
  | _ + 1, _, [] => False
  | k + 1, Rs, o :: os => ∃ (V : Qv L) (js : List (Nat × Tmp)), (pairB ops Rs.length js && lookB ops n Rs.length js) = true ∧ AskL L late P ops n Rs.reverse a0.defers Rs.length V o js a0 ∧ LateR L late P ops n a0 F k (V :: Rs) os
theorem LateR.mono {F : List (Qv L) → Prop} {k : Nat} {Rs : List (Qv L)} {o : Oper} {os : List Oper} (V : Qv L) (js : List (Nat × Tmp)) (hc : (pairB ops Rs.length js && lookB ops n Rs.length js) = true) (hl : late.contains Rs.length = false) (hA : ∀ vs w, L.C vs w → Ask' P ops vs Rs.reverse (ToldL (fun v w' => V.p vs v w' ∧ L.G w w') o.dst a0.defers) o w js a0) (h : LateR L late P ops n a0 F k (V :: Rs) os) : LateR L late P ops n a0 F (k + 1) Rs (o :: os) := ⟨V, js, hc, .inl ⟨hl, [], rfl, fun vs w _ hC => hA vs w hC⟩, h⟩
/-- .. known: some late operations have not come. -/
theorem LateR.monoN {F : List (Qv L) → Prop} {k : Nat} {Rs : List (Qv L)} {o : Oper} {os : List Oper} (V : Qv L) (js : List (Nat × Tmp)) (nq : List Nat) (hc : (pairB ops Rs.length js && lookB ops n Rs.length js) = true) (hl : late.contains Rs.length = false) (hq : nqB ops late n Rs.length nq = true) (hA : ∀ vs w, (∀ x ∈ nq, x ∉ vs.map (·.1)) → L.C vs w → Ask' P ops vs Rs.reverse (ToldL (fun v w' => V.p vs v w' ∧ L.G w w') o.dst a0.defers) o w js a0) (h : LateR L late P ops n a0 F k (V :: Rs) os) : LateR L late P ops n a0 F (k + 1) Rs (o :: os) := ⟨V, js, hc, .inl ⟨hl, nq, hq, hA⟩, h⟩
theorem LateR.turn {F : List (Qv L) → Prop} {k : Nat} {Rs : List (Qv L)} {o : Oper} {os : List Oper} (q : Nat) (js : List (Nat × Tmp)) (hc : (pairB ops Rs.length js && lookB ops n Rs.length js) = true) (rq : List Nat) (hl : late[q]? = some Rs.length) (hr : (rq.all fun x => match late[x]? with | some k => Region.waitsFor .any ops Rs.length k | none => false) = true) (hA : ∀ vs w, q ∉ vs.map (·.1) → (∀ x ∈ rq, x ∈ vs.map (·.1)) → L.C vs w → Ask' P ops vs Rs.reverse (ToldL (fun v w' => L.R q v w w' ∧ L.C (vs ++ [(q, v)]) w') o.dst a0.defers) o w js a0) (h : LateR L late P ops n a0 F k (Qv.slot q :: Rs) os) : LateR L late P ops n a0 F (k + 1) Rs (o :: os) := ⟨Qv.slot q, js, hc, .inr ⟨q, rq, [], hl, hr, rfl, rfl, fun vs w h1 h2 _ hC => hA vs w h1 h2 hC⟩, h⟩
theorem LateR.out {F : List (Qv L) → Prop} : ∀ {k : Nat} {Rs : List (Qv L)} {os : List Oper}, LateR L late P ops n a0 F k Rs os → k ≤ os.length ∧ ∃ Ws : List (Qv L), Ws.length = k ∧ F (Rs.reverse ++ Ws) ∧ ∀ m o, m < k → os[m]? = some o → ∃ V js, Ws[m]? = some V ∧ (pairB ops (Rs.length + m) js && lookB ops n (Rs.length + m) js) = true ∧ AskL L late P ops n ((Rs.reverse ++ Ws).take (Rs.length + m)) a0.defers (Rs.length + m) V o js a0
  | 0, Rs, os, h => ⟨Nat.zero_le _, [], rfl, by rw [List.append_nil]; exact h, fun m o hm => by omega⟩
  | _ + 1, _, [], h => h.elim
  | k + 1, Rs, o :: os, ⟨V, js, hb, hA, hM⟩ => by
    obtain ⟨hkl, Ws, hl, hF, hk⟩ := LateR.out hM
    refine ⟨by simpa using hkl, V :: Ws, by simp [hl], by simpa using hF, fun m o' hm ho => ?_⟩
    cases m with
    | zero =>
      obtain rfl : o = o' := by simpa using ho
      refine ⟨V, js, rfl, hb, ?_⟩
      have : (Rs.reverse ++ V :: Ws).take (Rs.length + 0) = Rs.reverse := by
        rw [Nat.add_zero, ← List.length_reverse]
        exact List.take_left
      rw [this]
      exact hA
    | succ m =>
      obtain ⟨V', js', h1, h2, h3⟩ := hk m o' (by omega) (by simpa using ho)
      refine ⟨V', js', by simpa using h1, ?_, ?_⟩
      · simpa [Nat.add_assoc, Nat.add_comm 1 m] using h2
      · simpa [Nat.add_assoc, Nat.add_comm 1 m] using h3
def FinL' (G : Act → World → Prop) (vs : List (Nat × Value)) (w : World) : List (Qv L) → List Oper → Act → Prop
  | V :: Vs, o :: os, a => ∀ x, V.p vs x w → FinL' G vs w Vs os (a.put o.dst x)
  | _, _, a => G a w
theorem FinL'.all {G : Act → World → Prop} {vs : List (Nat × Value)} {w : World} {b : Act} : ∀ {Vs : List (Qv L)} {os : List Oper} {a : Act}, Vs.length = os.length → (∀ (k : Nat) (V : Qv L) (o : Oper), Vs[k]? = some V → os[k]? = some o → V.p vs (match o.dst with | some d => b.eval (.tmp d) | none => undef) w) → FinL' G vs w Vs os a → G (onto b (os.map (·.dst)) a) w
  | [], [], _, _, _, h => h
  | V :: Vs, o :: os, a, hl, hx, h => FinL'.all (Vs := Vs) (os := os) (by simpa using hl) (fun k V o hv ho => hx (k + 1) V o (by simpa using hv) (by simpa using ho)) (h _ (hx 0 V o rfl rfl))
  | [], _ :: _, _, hl, _, _ => by simp at hl
  | _ :: _, [], _, hl, _, _ => by simp at hl
theorem Ask'.all {vs : List (Nat × Value)} {Vs : List (Qv L)} {Qt : Exit → Act → World → Prop} {o : Oper} {w : World} {b : Act} : ∀ {js : List (Nat × Tmp)} {a : Act}, (∀ x : Nat × Tmp, x ∈ js → (Vs.getD x.1 Qv.any).p vs (b.eval (.tmp x.2)) w) → Ask' P ops vs Vs Qt o w js a → wpList P ops Qt [o] (onto b (js.map fun x => some x.2) a) w
  | [], _, _, h => h
  | (j, d) :: js, a, hx, h => Ask'.all (js := js) (fun x hm => hx x (List.mem_cons_of_mem _ hm)) (h _ (hx (j, d) (by simp)))
/-- Which late operations are over. -/
def Cls (L : Lt) (late : List Nat) (vs : List (Nat × Value)) (D : Array Bool) (w : World) : Prop := ((vs.map (·.1)).Nodup ∧ ∀ q ∈ vs.map (·.1), q < late.length) ∧ L.C vs w ∧ ∀ q i, late[q]? = some i → (D.getD i false = true ↔ q ∈ vs.map (·.1))
structure LInv (L : Lt) (late : List Nat) (ops : Array Oper) (n : Nat) (a0 : Act) (Vs : List (Qv L)) (vs : List (Nat × Value)) (D : Array Bool) (a : Act) (w : World) : Prop where
  head : HeadInv .any ops n D
  cls : Cls L late vs D w
  tsize : a.tmps.size = a0.tmps.size
  defers : a.defers = a0.defers
  rest : ∀ t, (∀ j, j < n → D.getD j false = true → dstAt ops j ≠ some t) → a.tmps[t]? = a0.tmps[t]?
  known : ∀ j V, D.getD j false = true → Vs[j]? = some V → V.p vs (valOf (dstAt ops j) a) w
theorem toldL_letsOut {T : Value → World → Prop} {dst : Option Tmp} {ds : List Deferred} : ¬ LetsOut (ToldL T dst ds) := by
  rintro ⟨a, w', e, _⟩
  cases e
def lateB (n : Nat) (late : List Nat) : Bool := late.all (fun i => decide (i < n)) && decide late.Nodup
theorem toldL_op {T : Value → World → Prop} {o : Oper} {a b : Act} {w : World} (hs : ∀ cs b, o.op ≠ .select cs b) (hd : ∀ d, o.dst = some d → d < a.tmps.size) (hsz : b.tmps.size = a.tmps.size) (hlook : ∀ t ∈ o.looksAt ops, b.tmps[t]? = a.tmps[t]?) {i : Nat} (hi : ops[i]? = some o)
    (hdf : b.defers = a0.defers) (h : wpList P ops (ToldL T o.dst a0.defers) [o] b w) : wpOp P ops Q i (fun a' w' => ∃ v, a' = a.put o.dst v ∧ T (match o.dst with | some _ => v | none => undef) w') a w := by
  have hex : execOp b.eval o = execOp a.eval o := execOp_congr o hs fun x hx => by
    cases x with
    | tmp t => exact eval_of _ _ _ (hlook t (List.mem_append_left _ (List.mem_filterMap.2 ⟨.tmp t, by simpa using hx, rfl⟩)))
    | _ => rfl
  have hwn : Region.wanted o (yielded ops b.tmps) = Region.wanted o (yielded ops a.tmps) := by
    unfold Region.wanted
    cases hg : o.guard with
    | none => rfl
    | some gw =>
      obtain ⟨g, want⟩ := gw
      have hy : yielded ops b.tmps g = yielded ops a.tmps g := by
        unfold yielded
        cases ht : (ops[g]?).bind (·.dst) with
        | none => rfl
        | some t => simp only [Option.bind_some, hlook t (by simp [Oper.looksAt, hg, ht])]
      simp only [hy]
  have fin : ∀ v w', ToldL T o.dst a0.defers .normal (b.put o.dst v) w' → ∃ v', a.put o.dst v = a.put o.dst v' ∧ T (match o.dst with | some _ => v' | none => undef) w' := by
    rintro v w' ⟨_, _, h1⟩
    refine ⟨v, rfl, ?_⟩
    cases hdd : o.dst with
    | none => rw [hdd] at h1; exact h1
    | some d =>
      rw [hdd] at h1
      have hlt := hd d hdd
      have : (b.put (some d) v).eval (.tmp d) = v := by simp [Act.put, Act.eval, Array.getD_eq_getD_getElem?, hsz, hlt]
      simp only [this] at h1
      exact h1
  unfold wpOp
  simp only [hi]
  simp only [wpList, hwn] at h
  split
  · rename_i hw
    rw [if_pos hw] at h
    rcases h with h | h
    · left
      unfold Oper.wp at h ⊢
      rw [hex] at h
      generalize (execOp a.eval o).run P w = r at *
      cases r with
      | ok x w' =>
        cases x with
        | value v => exact fin v w' h
        | skip => exact fin undef w' h
        | enter f args =>
          refine Calls.mono h fun e w'' he => ?_
          cases e with
          | returned u => exact fin u w'' he
          | panicked c => exact absurd he.1 (by simp)
          | outgrown => exact absurd he toldL_letsOut
        | row row args => exact Rows.mono h fun u w'' he => fin u w'' he
        | defer d =>
          obtain ⟨_, h1, _⟩ := h
          have h1 : (Act.put { b with defers := d :: b.defers } o.dst undef).defers = a0.defers := h1
          rw [put_defers, ← hdf] at h1
          exact absurd (congrArg List.length h1) (by simp)
        | _ => exact h.elim
      | halt x w' =>
        cases x with
        | panic v => exact absurd h.1 (by simp)
        | _ => exact h.elim
    · exact absurd h.2 toldL_letsOut
  · rename_i hw
    rw [if_neg hw] at h
    exact fin undef w h
theorem linv_step {L : Lt} {late : List Nat} {vs vs2 : List (Nat × Value)} {Vs : List (Qv L)} {D : Array Bool} {a a' : Act} {w w' : World} {i : Nat} {o : Oper} {V : Qv L} {v : Value} (inv : LInv L late ops n a0 Vs vs D a w) (hd : distB ops n a0.tmps.size = true) (hi : i ∈ Region.ready .any ops D) (hin : i < n) (ho : ops[i]? = some o) (hV : Vs[i]? = some V) (hnl : Vs.length ≤ n)
    (ha : a' = a.put o.dst v) (hv : V.p vs2 (match o.dst with | some _ => v | none => undef) w') (hg : ∀ (W : Qv L) (j : Nat), D.getD j false = true → Vs[j]? = some W → ∀ {u : Value}, W.p vs u w → W.p vs2 u w') (hcl : Cls L late vs2 (D.setIfInBounds i true) w') : LInv L late ops n a0 Vs vs2 (D.setIfInBounds i true) a' w' := by
  subst ha
  have hdi : dstAt ops i = o.dst := by simp [dstAt, ho]
  have hun : D.getD i true = false := (mem_ready.1 hi).1
  have hlt : i < D.size := by
    rcases Nat.lt_or_ge i D.size with h' | h'
    · exact h'
    · simp [Array.getElem?_eq_none h'] at hun
  refine ⟨inv.head.set hi hin, hcl, (put_size _ _ _).trans inv.tsize, (put_defers _ _ _).trans inv.defers, fun t ht => ?_, fun j W hj hW => ?_⟩
  · have h1 : o.dst ≠ some t := fun e => ht i hin (by simp [hlt]) (hdi.trans e)
    refine Eq.trans ?_ (inv.rest t fun j hj hD => ht j hj (getD_set_true hD))
    cases hdd : o.dst with
    | none => rfl
    | some d => exact put_at _ _ _ _ (fun e => h1 (by rw [hdd, e]))
  · by_cases e : i = j
    · subst e
      obtain rfl : V = W := Option.some.inj (hV.symm.trans hW)
      rw [hdi]
      cases hdd : o.dst with
      | none => rw [hdd] at hv; exact hv
      | some d =>
        rw [hdd] at hv
        have hds := list_all_range hd hin
        rw [hdi, hdd] at hds
        simp only [Bool.and_eq_true, decide_eq_true_eq] at hds
        have : (a.put (some d) v).eval (.tmp d) = v := by simp [Act.put, Act.eval, Array.getD_eq_getD_getElem?, inv.tsize, hds.1]
        show V.p vs2 ((a.put (some d) v).eval (.tmp d)) w'
        rw [this]
        exact hv
    · have hjn : j < n := by have := (List.getElem?_eq_some_iff.1 hW).1; omega
      rw [getD_set_ne false e] at hj
      have h1 := hg W j hj hW (inv.known j W hj hW)
      cases hdj : dstAt ops j with
      | none => rw [hdj] at h1; exact h1
      | some dj =>
        rw [hdj] at h1
        have h1 : W.p vs2 (a.eval (.tmp dj)) w' := h1
        show W.p vs2 ((a.put o.dst v).eval (.tmp dj)) w'
        cases hdd : o.dst with
        | none => exact h1
        | some d =>
          have hds := list_all_range hd hin
          rw [hdi, hdd] at hds
          simp only [Bool.and_eq_true, decide_eq_true_eq] at hds
          have h2 := list_all_range hds.2 hjn
          simp only [Bool.or_eq_true, beq_iff_eq, bne_iff_ne, ne_eq] at h2
          have h3 : d ≠ dj := fun e' => (h2.resolve_left (fun e2 => e e2.symm)) (by rw [hdj, e'])
          rw [eval_of _ a dj (put_at a d dj v h3)]
          exact h1
/-- The law. -/
theorem wpAny_late {l : List Oper} (n : Nat) (hB : monoB l.toArray n a0.tmps.size = true) (hBl : lateB n late = true) (hC0 : L.C [] w0)
    (h : LateR L late P l.toArray n a0 (fun Vs => ∀ vs w, (vs.map (·.1)).Nodup ∧ (∀ q, q < late.length ↔ q ∈ vs.map (·.1)) → L.C vs w → FinL' (fun a w => wpList P l.toArray Q (l.drop n) a w) vs w Vs (l.take n) a0) n [] l) : wpAny P .any l.toArray Q l.toArray.size (Array.replicate l.toArray.size false) a0 w0 := by
  simp only [monoB, Bool.and_eq_true, decide_eq_true_eq] at hB
  obtain ⟨⟨⟨⟨hsel, hn⟩, htail⟩, htopo⟩, hdist⟩ := hB
  simp only [tailB, Bool.and_eq_true] at htail
  obtain ⟨hblk, hseq⟩ := htail
  simp only [lateB, Bool.and_eq_true, decide_eq_true_eq] at hBl
  obtain ⟨hlt0, hnd⟩ := hBl
  have hlate : ∀ i ∈ late, i < n := fun i hi => by simpa using List.all_eq_true.1 hlt0 i hi
  obtain ⟨_, Vs, hVl, hF, hO⟩ := LateR.out h
  rw [List.reverse_nil, List.nil_append] at hF
  simp only [List.reverse_nil, List.nil_append, List.length_nil, Nat.zero_add] at hO
  have hnl : n ≤ l.length := by simpa using hn
  have htl : (l.take n).length = n := by simp; omega
  have hVn : Vs.length = n := hVl
  have hdl : (l.drop n).length = l.toArray.size - n := by simp
  have hnext : ∀ i o, i < n → l.toArray[i]? = some o → (l.take n)[i]? = some o := fun i o hi ho => by
    rw [List.getElem?_take, if_pos hi]
    simpa using ho
  have key : ∀ m vs D a w, LInv L late l.toArray n a0 Vs vs D a w → cnt D n = m → wpAny P .any l.toArray Q (m + (l.toArray.size - n)) D a w := by
    intro m
    induction m with
    | zero =>
      intro vs D a w inv hc
      have hall := cnt_zero hc
      have hD : D = Array.replicate n true ++ Array.replicate (l.toArray.size - n) false := by
        have hsz := inv.head.size
        refine Array.ext (by simp [hsz]; omega) fun i h1 h2 => ?_
        rw [Array.getElem_append]
        by_cases hi : i < n
        · have := hall i hi
          simp [h1] at this
          simp [hi, this]
        · have := inv.head.tail i (by omega) (by omega)
          simp [h1] at this
          simp [hi, this]
      have hk : ∀ (k : Nat) (V : Qv L) (o : Oper), Vs[k]? = some V → (l.take n)[k]? = some o → V.p vs (match o.dst with | some d => a.eval (.tmp d) | none => undef) w := by
        intro k V o hv ho
        have hkn : k < n := by have := (List.getElem?_eq_some_iff.1 hv).1; omega
        have h1 := inv.known k V (hall k hkn) hv
        have h2 : dstAt l.toArray k = o.dst := by
          have : l[k]? = some o := by rw [List.getElem?_take, if_pos hkn] at ho; exact ho
          simp [dstAt, this]
        rw [h2] at h1
        have h3 : (match o.dst with | some d => a.eval (.tmp d) | none => undef) = valOf o.dst a := by cases o.dst <;> rfl
        rw [h3]
        exact h1
      have hcl : ((vs.map (·.1)).Nodup ∧ (∀ q, q < late.length ↔ q ∈ vs.map (·.1))) ∧ L.C vs w := by
        obtain ⟨hk0, hk1, hk2⟩ := inv.cls
        exact ⟨⟨hk0.1, fun q => ⟨fun h => (hk2 q late[q] (List.getElem?_eq_getElem h)).1 (hall _ (hlate _ (List.getElem_mem h))), hk0.2 q⟩⟩, hk1⟩
      have hfin := FinL'.all (hVl.trans htl.symm) hk (hF vs w hcl.1 hcl.2)
      have hon : onto a ((l.take n).map (·.dst)) a0 = a := by
        refine act_ext (fun t => onto_at a t _ _ inv.tsize.symm ?_) ((onto_defers _ _ _).trans inv.defers.symm)
        by_cases ht : some t ∈ (l.take n).map (·.dst)
        · exact .inl ht
        · refine .inr (inv.rest t fun j hj _ e => ht ?_).symm
          have hjl : j < l.length := by omega
          have : l[j].dst = some t := by simpa [dstAt, hjl] using e
          exact List.mem_map.2 ⟨l[j], List.mem_iff_getElem?.2 ⟨j, by rw [List.getElem?_take, if_pos hj, List.getElem?_eq_getElem hjl]⟩, this⟩
      rw [hon] at hfin
      have := wpAny_of_seq (md := .any) (Q' := Q) (l.drop n) n D a w (fun j => by simp [List.getElem?_drop]) (by rw [hdl, hD]; exact hseq) hfin
      rw [hdl] at this
      rwa [Nat.zero_add]
    | succ m ih =>
      intro vs D a w inv hc
      have hready : ∀ i ∈ Region.ready .any l.toArray D, i < n := by
        intro i hi
        rcases Nat.lt_or_ge i n with h' | h'
        · exact h'
        · obtain ⟨hu, oi, hoi, hall⟩ := mem_ready.1 hi
          have hlt : i < l.toArray.size := (Array.getElem?_eq_some_iff.1 hoi).1
          exfalso
          obtain ⟨k, hk, hkd⟩ : ∃ k, k < n ∧ D.getD k false = false := by
            refine Classical.byContradiction fun hno => ?_
            have : ∀ k, k ≤ n → cnt D k = 0 := by
              intro k
              induction k with
              | zero => intro _; rfl
              | succ k ihk =>
                intro hk
                have h1 : D.getD k false = true := by
                  refine Classical.byContradiction fun hx => hno ⟨k, by omega, by simpa using hx⟩
                simp only [cnt, h1, ihk (by omega)]
                rfl
            rw [this n (Nat.le_refl _)] at hc
            omega
          have hb := list_all_range hblk hlt
          simp only [Bool.or_eq_true, decide_eq_true_eq] at hb
          have hb := list_all_range (hb.resolve_left (by omega)) hk
          simp only [Bool.not_eq_true'] at hb
          have hik : i ≠ k := by omega
          have : av l.toArray k n i = true := by
            have hav := fun f j hj => av_of (ops := l.toArray) inv.head.closed inv.head.size hkd f j hj
            cases hn0 : n with
            | zero => simp [av, hik]
            | succ f =>
              simp only [av, hoi, Option.map_some, Option.getD_some, Bool.and_eq_true, bne_iff_ne]
              refine ⟨hik, ?_⟩
              rw [Array.all_eq_true_iff_forall_mem]
              intro e he
              by_cases hbd : Region.binds .any e = true
              · simp [hbd, hav f e.on (hall e he hbd)]
              · simp [hbd]
          rw [hb] at this
          cases this
      have hne : Region.ready .any l.toArray D ≠ [] := by
        have hex : ∃ k, k < n ∧ D.getD k false = false ∧ ∀ j, j < k → D.getD j false = true := by
          have : ∀ k, k ≤ n → (∃ q, q < k ∧ D.getD q false = false ∧ ∀ j, j < q → D.getD j false = true) ∨ (cnt D k = 0) := by
            intro k
            induction k with
            | zero => intro _; exact .inr rfl
            | succ k ihk =>
              intro hk
              rcases ihk (by omega) with ⟨q, h1, h2⟩ | h0
              · exact .inl ⟨q, by omega, h2⟩
              · cases hq : D.getD k false with
                | true => right; simp only [cnt, hq, h0]; rfl
                | false => exact .inl ⟨k, by omega, hq, cnt_zero h0⟩
          rcases this n (Nat.le_refl _) with ⟨q, h1, h2⟩ | h0
          · exact ⟨q, h1, h2⟩
          · omega
        obtain ⟨k, hk, hkd, hbel⟩ := hex
        have hkl : k < l.toArray.size := by omega
        have ho : l.toArray[k]? = some l.toArray[k] := Array.getElem?_eq_getElem hkl
        have : k ∈ Region.ready .any l.toArray D := by
          refine mem_ready.2 ⟨getD_in (by rw [inv.head.size]; exact hkl) hkd, _, ho, fun e he hb => hbel _ ?_⟩
          have ht := list_all_range htopo hk
          simp only [ho, Option.map_some, Option.getD_some] at ht
          have := Array.all_eq_true_iff_forall_mem.1 ht e he
          simpa [hb] using this
        intro e
        rw [e] at this
        cases this
      rw [show m + 1 + (l.toArray.size - n) = (m + (l.toArray.size - n)) + 1 by omega]
      refine ⟨fun e => absurd e hne, fun i hi => ?_⟩
      have hin := hready i hi
      obtain ⟨hu, o, ho, hall⟩ := mem_ready.1 hi
      obtain ⟨V, js, hV, hchk, hask⟩ := hO i o hin (by simpa using ho)
      simp only [Bool.and_eq_true] at hchk
      obtain ⟨hpair, hlook⟩ := hchk
      have hdst : ∀ d, o.dst = some d → d < a.tmps.size := by
        intro d hd
        have := list_all_range hdist hin
        have h2 : dstAt l.toArray i = some d := by simp only [dstAt, ho]; exact hd
        rw [h2] at this
        simp only [Bool.and_eq_true, decide_eq_true_eq] at this
        rw [inv.tsize]
        exact this.1
      have hjs : ∀ x : Nat × Tmp, x ∈ js → dstAt l.toArray x.1 = some x.2 ∧ D.getD x.1 false = true ∧ x.1 < i := by
        intro x hx
        have := List.all_eq_true.1 hpair x hx
        simp only [Bool.and_eq_true, beq_iff_eq] at this
        obtain ⟨oj, hoj, e, he, hb, hon⟩ := Region.waitsFor_spec this.2
        obtain rfl : o = oj := Option.some.inj (ho.symm.trans hoj)
        have ht := list_all_range htopo hin
        simp only [ho, Option.map_some, Option.getD_some] at ht
        have ht := Array.all_eq_true_iff_forall_mem.1 ht e he
        simp only [hb, Bool.not_true, Bool.false_or, decide_eq_true_eq] at ht
        exact ⟨this.1, by rw [← hon]; exact hall e he hb, by rw [← hon]; exact ht⟩
      have hget : ∀ x : Nat × Tmp, x ∈ js → ((Vs.take i).getD x.1 Qv.any).p vs (a.eval (.tmp x.2)) w := fun x hx => by
        obtain ⟨h1, h2, h3⟩ := hjs x hx
        have hxl : x.1 < Vs.length := by omega
        have h4 : Vs[x.1]? = some Vs[x.1] := List.getElem?_eq_getElem hxl
        have h5 := inv.known x.1 _ h2 h4
        rw [h1] at h5
        have : (Vs.take i).getD x.1 Qv.any = Vs[x.1] := by
          rw [List.getD_eq_getElem?_getD, List.getElem?_take, if_pos h3, h4]
          rfl
        rw [this]
        exact h5
      obtain ⟨hk0, hk1, hk2⟩ := inv.cls
      have hlk : ∀ t ∈ o.looksAt l.toArray, (onto a (js.map fun x => some x.2) a0).tmps[t]? = a.tmps[t]? := fun t ht => by
        refine onto_at a t _ _ inv.tsize.symm ?_
        have h1 : (o.looksAt l.toArray).all (fun t => js.any (·.2 == t) || keptB l.toArray n i t) = true := by
          simpa only [lookB, ho, Option.map_some, Option.getD_some] using hlook
        have h2 := List.all_eq_true.1 h1 t ht
        simp only [Bool.or_eq_true] at h2
        rcases h2 with h2 | h2
        · left
          obtain ⟨x, hx, hxt⟩ := List.any_eq_true.1 h2
          exact List.mem_map.2 ⟨x, hx, by rw [beq_iff_eq.1 hxt]⟩
        · right
          refine (inv.rest t fun j hj hD e => ?_).symm
          have h3 := list_all_range h2 hj
          simp only [Bool.or_eq_true, bne_iff_ne, ne_eq, beq_iff_eq] at h3
          rcases h3 with (h3 | h3) | h3
          · exact h3 e
          · obtain ⟨oj, hoj, e', he', hb', hon⟩ := Region.waitsFor_spec h3
            have := inv.head.closed j oj hoj hD e' he' hb'
            rw [hon, getD_both hu] at this
            cases this
          · subst h3
            rw [getD_both hu] at hD
            cases hD
      obtain ⟨T, hA, hS⟩ : ∃ T : Value → World → Prop, Ask' P l.toArray vs (Vs.take i) (ToldL T o.dst a0.defers) o w js a0 ∧ (∀ v w', T v w' → ∃ vs2, V.p vs2 v w' ∧ (∀ (W : Qv L) (j : Nat), D.getD j false = true → Vs[j]? = some W → ∀ {u : Value}, W.p vs u w → W.p vs2 u w') ∧ Cls L late vs2 (D.setIfInBounds i true) w') := by
        have hnq : ∀ nq : List Nat, nqB l.toArray late n i nq = true → ∀ x ∈ nq, x ∉ vs.map (·.1) := fun nq hb x hx hm => by
          have hw := List.all_eq_true.1 hb x hx
          cases hlx : late[x]? with
          | none => rw [hlx] at hw; cases hw
          | some k =>
            rw [hlx] at hw
            have hDk := (hk2 x k hlx).2 hm
            have := av_of (ops := l.toArray) inv.head.closed inv.head.size (getD_both hu) n k hDk
            simp [this] at hw
        rcases hask with ⟨hnl', nq, hnqb, hA⟩ | ⟨q, rq, nq, hq, hrq, hnqb, hVq, hA⟩
        · have hne : ∀ q i', late[q]? = some i' → i ≠ i' := fun q i' hq e => by
            subst e
            have := List.contains_iff_mem.2 (List.mem_of_getElem? hq)
            rw [hnl'] at this
            cases this
          exact ⟨_, hA vs w (hnq nq hnqb) hk1, fun v w' hg => ⟨vs, hg.1, fun W j _ _ _ hp => W.st hp hg.2, hk0, L.g hk1 hg.2, fun q i' hq => by rw [getD_set_ne false (hne q i' hq)]; exact hk2 q i' hq⟩⟩
        · have hDi : D.getD i false = false := getD_both hu
          have h1 : q ∉ vs.map (·.1) := fun h => by have := (hk2 q i hq).2 h; rw [hDi] at this; cases this
          have h2 : ∀ x ∈ rq, x ∈ vs.map (·.1) := fun x hx => by
            have hw := List.all_eq_true.1 hrq x hx
            cases hlx : late[x]? with
            | none => rw [hlx] at hw; cases hw
            | some k =>
              rw [hlx] at hw
              obtain ⟨oj, hoj, e, he, hb, hon⟩ := Region.waitsFor_spec hw
              obtain rfl : o = oj := Option.some.inj (ho.symm.trans hoj)
              have h3 := hall e he hb
              rw [hon] at h3
              exact (hk2 x k hlx).1 h3
          refine ⟨_, hA vs w h1 h2 (hnq nq hnqb) hk1, fun v w' hg => ⟨vs ++ [(q, v)], (by rw [hVq]; show (q, v) ∈ vs ++ [(q, v)]; simp), fun W j hj hW _ hp => W.sr hk1 hg.1 hp, ⟨?_, fun x hx => ?_⟩, hg.2, fun q' i' hq' => ?_⟩⟩
          · rw [List.map_append, List.nodup_append]
            exact ⟨hk0.1, by simp, fun a ha b hb e => by
              have hb : b = q := by simpa using hb
              exact h1 (by rw [← hb, ← e]; exact ha)⟩
          · rw [List.map_append, List.mem_append] at hx
            rcases hx with hx | hx
            · exact hk0.2 x hx
            · have hx : x = q := by simpa using hx
              rw [hx]
              exact (List.getElem?_eq_some_iff.1 hq).1
          · rw [List.map_append, List.mem_append]
            by_cases e : i = i'
            · subst e
              have hqq : q' = q := (List.getElem?_inj (List.getElem?_eq_some_iff.1 hq').1 hnd).1 (hq'.trans hq.symm)
              have hlt : i < D.size := by
                rw [inv.head.size]
                exact (Array.getElem?_eq_some_iff.1 ho).1
              simp [hlt, hqq]
            · rw [getD_set_ne false e, hk2 q' i' hq']
              have : q' ≠ q := fun e' => e (by rw [e', hq] at hq'; exact Option.some.inj hq')
              simp [this]
      have hW := Ask'.all (b := a) hget hA
      have hop := toldL_op (Q := Q) (ops := l.toArray) (a0 := a0) (a := a) (Region.noSelect_spec hsel i o · · ho) hdst ((onto_size _ _ _).trans inv.tsize.symm) hlk ho (onto_defers _ _ _) hW
      refine wpOp_mono (fun a' w' hk => ?_) hop
      obtain ⟨v, ha, hT⟩ := hk
      obtain ⟨vs2, hv, hs, hcl⟩ := hS _ w' hT
      exact ih vs2 _ a' w' (linv_step inv hdist hi hin ho hV (by omega) ha hv hs hcl) (by have := (cnt_set (D := D) (i := i) n).2 hin hu; omega)
  have h0 := key n [] (Array.replicate l.toArray.size false) a0 w0 ⟨⟨by simp, (fun j oj _ hD => by rw [getD_replicate_false] at hD; cases hD), fun t _ ht => by simp only [List.size_toArray] at ht ⊢; simp [ht]⟩, ⟨⟨by simp, by simp⟩, hC0, fun q i hq => by rw [getD_replicate_false]; simp⟩, rfl, rfl, fun _ _ => rfl, (fun j V hD => by rw [getD_replicate_false] at hD; cases hD)⟩ (cnt_false _ n)
  rwa [show n + (l.toArray.size - n) = l.toArray.size by omega] at h0
/-- One operation that is carried out .. -/
theorem askl_do {T : Value → World → Prop} {ds : List Deferred} {o : Oper} {a : Act} {w : World} (hw : Region.wanted o (yielded ops a.tmps) = true)
    (h : ∀ K' : Act → World → Prop, (∀ a' w', a'.defers = ds → T (match o.dst with | some d => a'.eval (.tmp d) | none => undef) w' → K' a' w') → o.wp P a w K' (ToldL T o.dst ds)) : wpList P ops (ToldL T o.dst ds) [o] a w := by
  unfold wpList
  rw [if_pos hw]
  exact .inl (h _ fun a' w' h1 h2 => ⟨rfl, h1, h2⟩)
/-- What is behind them. -/
def FinL (P : Program) (ops : Array Oper) (Q : Exit → Act → World → Prop) (vs : List (Nat × Value)) (w : World) : List (Qv L) → List Oper → Act → Prop
  | V :: Vs, o :: os, a => ∀ x, V.p vs x w → FinL P ops Q vs w Vs os (a.put o.dst x)
  | _, os, a => wpList P ops Q os a w
theorem FinL.cut {vs : List (Nat × Value)} {w : World} : ∀ {Vs : List (Qv L)} {os : List Oper} {a : Act}, Vs.length ≤ os.length → FinL P ops Q vs w Vs os a → FinL' (fun a w => wpList P ops Q (os.drop Vs.length) a w) vs w Vs (os.take Vs.length) a
  | [], os, a, _, h => by
    have h : wpList P ops Q os a w := by cases os <;> exact h
    exact h
  | V :: Vs, [], a, hl, _ => by simp at hl
  | V :: Vs, o :: os, a, hl, h => fun x hx => FinL.cut (Vs := Vs) (os := os) (by simpa using hl) (h x hx)
theorem LateR.weak {F G : List (Qv L) → Prop} : ∀ {k : Nat} {Rs : List (Qv L)} {os : List Oper}, LateR L late P ops n a0 F k Rs os → (∀ Ws, Ws.length = Rs.length + k → F Ws → G Ws) → LateR L late P ops n a0 G k Rs os
  | 0, Rs, _, h, hg => hg _ (by simp) h
  | _ + 1, _, [], h, _ => h.elim
  | k + 1, Rs, o :: os, ⟨V, js, hb, hA, hM⟩, hg => ⟨V, js, hb, hA, LateR.weak hM fun Ws hW => hg Ws (by simp at hW ⊢; omega)⟩
theorem wpAny_lateR {l : List Oper} (n : Nat) (hB : monoB l.toArray n a0.tmps.size = true) (hBl : lateB n late = true) (hC0 : L.C [] w0)
    (h : LateR L late P l.toArray n a0 (fun Vs => ∀ vs w, (vs.map (·.1)).Nodup ∧ (∀ q, q < late.length ↔ q ∈ vs.map (·.1)) → L.C vs w → FinL P l.toArray Q vs w Vs l a0) n [] l) : wpAny P .any l.toArray Q l.toArray.size (Array.replicate l.toArray.size false) a0 w0 := by
  refine wpAny_late n hB hBl hC0 (LateR.weak h fun Ws hW hF vs w hvl hw => ?_)
  have hn := (LateR.out h).1
  have hl : Ws.length = n := by simpa using hW
  have := FinL.cut (by rw [hl]; exact hn) (hF vs w hvl hw)
  rwa [hl] at this
theorem wp_region_late {l : List Oper} {id : Nat} (L : Lt) (late : List Nat) (n : Nat) (hm : P.follows .mixedOrders = true) (hB : monoB l.toArray n a0.tmps.size = true) (hBl : lateB n late = true) (hC0 : L.C [] w0.drew)
    (h : LateR L late P l.toArray n a0 (fun Vs => ∀ vs w, (vs.map (·.1)).Nodup ∧ (∀ q, q < late.length ↔ q ∈ vs.map (·.1)) → L.C vs w → FinL P l.toArray Q vs w Vs l a0) n [] l) : (Code.region id l.toArray true).wp P Q a0 w0 :=
  wp_region_any hm (wpAny_lateR n hB hBl hC0 h)
end
end Go.Proofs.YtlhjbllfcbojmaaDoor.FR

namespace Go.Proofs.YtlhjbllfcbojmaaDoor
open Go Go.RowKit

theorem fr_one {vs : List (Nat × Value)} (h : (vs.map (·.1)).Nodup) {q : Nat} {x y : Value} : (q, x) ∈ vs → (q, y) ∈ vs → x = y := by
  induction vs with
  | nil => intro hx; cases hx
  | cons a vs ih =>
    rw [List.map_cons, List.nodup_cons] at h
    intro hx hy
    rcases List.mem_cons.1 hx with e1 | h1 <;> rcases List.mem_cons.1 hy with e2 | h2
    · exact (Prod.ext_iff.1 (e1.trans e2.symm)).2
    · exact absurd (List.mem_map.2 ⟨_, h2, by rw [← e1]⟩) h.1
    · exact absurd (List.mem_map.2 ⟨_, h1, by rw [← e2]⟩) h.1
    · exact ih h.2 h1 h2
theorem fr_in {vs : List (Nat × Value)} {q : Nat} {x : Value} (h : (q, x) ∈ vs) : q ∈ vs.map (·.1) := List.mem_map.2 ⟨_, h, rfl⟩
theorem fr_snoc {vs : List (Nat × Value)} {q r : Nat} {u : Value} : r ∈ (vs ++ [(q, u)]).map (·.1) ↔ r ∈ vs.map (·.1) ∨ r = q := by simp
theorem fr_nodup {vs : List (Nat × Value)} {q : Nat} {u : Value} (h : (vs.map (·.1)).Nodup) (hq : q ∉ vs.map (·.1)) : ((vs ++ [(q, u)]).map (·.1)).Nodup := by
  rw [List.map_append, List.nodup_append]
  exact ⟨h, by simp, fun a ha b hb e => by
    have hb : b = q := by simpa using hb
    exact hq (by rw [← hb, ← e]; exact ha)⟩
/-- What is known of the call: ahead of it; behind it, of what it told and the cells to be stored. -/
structure BoxOk (D : World) (row : Option Nat) (ty : TypeId) (zero : Array Value) (Pre : World → Prop) (Told : Value → Array Value → World → Prop) : Prop where
  row : ∀ r, row = some r → r < D.heap.size
  pre : ∀ {W W'}, Pre W → W.grownBy W' none → Pre W'
  told : ∀ {x cs W W'}, Told x cs W → W.grownBy W' none → Told x cs W'
  store : ∀ {x cs W W' g}, Told x cs W → Bk W g ty zero → D.heap.size ≤ g → W.grownBy W' (some g) → Told x cs W'
structure BoxC (D : World) (row : Option Nat) (ty : TypeId) (zero : Array Value) (Pre : World → Prop) (Told : Value → Array Value → World → Prop) (vs : List (Nat × Value)) (W : World) : Prop where
  g : D.grownBy W row
  pre : 0 ∉ vs.map (·.1) → Pre W
  told : ∀ x, (0, x) ∈ vs → ∃ cs, Told x cs W
  box : ∀ x, (1, x) ∈ vs → ∃ g, x = .pointer (some ⟨g, 0, none⟩) ∧ D.heap.size ≤ g ∧ (2 ∉ vs.map (·.1) → Bk W g ty zero) ∧ (2 ∈ vs.map (·.1) → ∃ y cs, (0, y) ∈ vs ∧ Told y cs W ∧ Bk W g ty cs)
  two : 2 ∈ vs.map (·.1) → 1 ∈ vs.map (·.1)
  nd : (vs.map (·.1)).Nodup
section
variable {D : World} {row : Option Nat} {ty : TypeId} {zero : Array Value} {Pre : World → Prop} {Told : Value → Array Value → World → Prop} {vs : List (Nat × Value)} {W W' : World}
theorem BoxC.start (h : Pre D) : BoxC D row ty zero Pre Told [] D := ⟨World.grownBy.refl _ _, fun _ => h, by simp, by simp, by simp, by simp⟩
theorem BoxC.keep (ok : BoxOk D row ty zero Pre Told) (h : BoxC D row ty zero Pre Told vs W) (hg : W.grownBy W' none) : BoxC D row ty zero Pre Told vs W' where
  g := h.g.trans (hg.but _)
  pre := fun hn => ok.pre (h.pre hn) hg
  told := fun x hx => by
    obtain ⟨cs, hc⟩ := h.told x hx
    exact ⟨cs, ok.told hc hg⟩
  box := fun x hx => by
    obtain ⟨g, e, hl, h1, h2⟩ := h.box x hx
    refine ⟨g, e, hl, fun hn => (h1 hn).grown hg (by simp), fun hy => ?_⟩
    obtain ⟨y, cs, a, b, c⟩ := h2 hy
    exact ⟨y, cs, a, ok.told b hg, c.grown hg (by simp)⟩
  two := h.two
  nd := h.nd
theorem BoxC.call (ok : BoxOk D row ty zero Pre Told) (h : BoxC D row ty zero Pre Told vs W) (hn : 0 ∉ vs.map (·.1)) {x : Value} {cs : Array Value} (ht : Told x cs W') (hg : W.grownBy W' row) : BoxC D row ty zero Pre Told (vs ++ [(0, x)]) W' where
  g := h.g.trans hg
  pre := fun hm => absurd (fr_snoc.2 (.inr rfl)) hm
  told := fun y hy => by
    rcases List.mem_append.1 hy with hy | hy
    · exact absurd (fr_in hy) hn
    · simp only [List.mem_singleton, Prod.mk.injEq, true_and] at hy
      subst hy
      exact ⟨cs, ht⟩
  box := fun y hy => by
    rcases List.mem_append.1 hy with hy | hy
    · obtain ⟨g, e, hl, h1, h2⟩ := h.box y hy
      refine ⟨g, e, hl, fun hm => (h1 fun hk => hm (fr_snoc.2 (.inl hk))).grown hg (fun e => by have := ok.row g e.symm; omega), fun hm => ?_⟩
      rcases fr_snoc.1 hm with hm | hm
      · obtain ⟨z, _, hz, _⟩ := h2 hm
        exact absurd (fr_in hz) hn
      · cases hm
    · simp at hy
  two := fun hm => by
    rcases fr_snoc.1 hm with hm | hm
    · exact fr_snoc.2 (.inl (h.two hm))
    · cases hm
  nd := fr_nodup h.nd hn
theorem BoxC.alloc (ok : BoxOk D row ty zero Pre Told) (h : BoxC D row ty zero Pre Told vs W) (hn : 1 ∉ vs.map (·.1)) : BoxC D row ty zero Pre Told (vs ++ [(1, .pointer (some ⟨W.heap.size, 0, none⟩))]) (W.alloc (.cells zero ty)) where
  g := h.g.trans ((World.grownBy_alloc _ _ none).but _)
  pre := fun hm => ok.pre (h.pre fun hk => hm (fr_snoc.2 (.inl hk))) (World.grownBy_alloc _ _ none)
  told := fun y hy => by
    rcases List.mem_append.1 hy with hy | hy
    · obtain ⟨cs, hc⟩ := h.told y hy
      exact ⟨cs, ok.told hc (World.grownBy_alloc _ _ none)⟩
    · simp at hy
  box := fun y hy => by
    have h2 : 2 ∉ (vs ++ [(1, Value.pointer (some ⟨W.heap.size, 0, none⟩))] : List (Nat × Value)).map (·.1) := fun hm => by
      rcases fr_snoc.1 hm with hm | hm
      · exact hn (h.two hm)
      · cases hm
    rcases List.mem_append.1 hy with hy | hy
    · exact absurd (fr_in hy) hn
    · simp only [List.mem_singleton, Prod.mk.injEq, true_and] at hy
      exact ⟨_, hy, h.g.size, fun _ => Bk.new _ _ _, fun hm => absurd hm h2⟩
  two := fun hm => by
    rcases fr_snoc.1 hm with hm | hm
    · exact fr_snoc.2 (.inl (h.two hm))
    · cases hm
  nd := fr_nodup h.nd hn
theorem BoxC.stored (ok : BoxOk D row ty zero Pre Told) (h : BoxC D row ty zero Pre Told vs W) (hn : 2 ∉ vs.map (·.1)) {x u : Value} {cs : Array Value} {g : Nat} (hx : (0, x) ∈ vs) (ht : Told x cs W) (hp : (1, .pointer (some ⟨g, 0, none⟩)) ∈ vs) (hb : Bk W' g ty cs) (hg : W.grownBy W' (some g)) : BoxC D row ty zero Pre Told (vs ++ [(2, u)]) W' := by
  obtain ⟨g', e, hl, h1, _⟩ := h.box _ hp
  injection e with e
  injection e with e
  injection e with e _ _
  subst e
  have hz := h1 hn
  refine ⟨h.g.andThen hg (fun j e => .inl (by injection e with e; omega)), fun hm => absurd (fr_snoc.2 (.inl (fr_in hx))) hm, fun y hy => ?_, fun y hy => ?_, fun hm => fr_snoc.2 (.inl (fr_in hp)), fr_nodup h.nd hn⟩
  · rcases List.mem_append.1 hy with hy | hy
    · obtain ⟨cs', hc⟩ := h.told y hy
      exact ⟨cs', ok.store hc hz hl hg⟩
    · simp at hy
  · rcases List.mem_append.1 hy with hy | hy
    · have := fr_one h.nd hy hp
      exact ⟨g, this, hl, fun hm => absurd (fr_snoc.2 (.inr rfl)) hm, fun _ => ⟨x, cs, List.mem_append_left _ hx, ok.store ht hz hl hg, hb⟩⟩
    · simp at hy
theorem BoxC.fin (h : BoxC D row ty zero Pre Told vs W) (hv : ∀ q, q < 3 ↔ q ∈ vs.map (·.1)) {y : Value} (hy : (1, y) ∈ vs) : ∃ g x cs, y = .pointer (some ⟨g, 0, none⟩) ∧ D.heap.size ≤ g ∧ (0, x) ∈ vs ∧ Told x cs W ∧ Bk W g ty cs ∧ D.grownBy W row := by
  obtain ⟨g, e, hl, _, h2⟩ := h.box y hy
  obtain ⟨x, cs, a, b, c⟩ := h2 ((hv 2).1 (by omega))
  exact ⟨g, x, cs, e, hl, a, b, c, h.g⟩
/-- The worlds of such a region. -/
def boxLt (ok : BoxOk D row ty zero Pre Told) : FR.Lt where
  C := BoxC D row ty zero Pre Told
  R _ _ _ _ := True
  G W W' := W.grownBy W' none
  g := fun h hg => h.keep ok hg
end
structure CallC (D : World) (row : Option Nat) (Pre : World → Prop) (Told : Value → World → Prop) (vs : List (Nat × Value)) (W : World) : Prop where
  g : D.grownBy W row
  pre : 0 ∉ vs.map (·.1) → Pre W
  told : ∀ x, (0, x) ∈ vs → Told x W
section
variable {D : World} {row : Option Nat} {Pre : World → Prop} {Told : Value → World → Prop} {vs : List (Nat × Value)} {W W' : World}
theorem CallC.start (h : Pre D) : CallC D row Pre Told [] D := ⟨World.grownBy.refl _ _, fun _ => h, by simp⟩
theorem CallC.call (h : CallC D row Pre Told vs W) (hn : 0 ∉ vs.map (·.1)) {x : Value} (ht : Told x W') (hg : W.grownBy W' row) : CallC D row Pre Told (vs ++ [(0, x)]) W' := ⟨h.g.trans hg, fun hm => absurd (fr_snoc.2 (.inr rfl)) hm, fun y hy => by
  rcases List.mem_append.1 hy with hy | hy
  · exact absurd (fr_in hy) hn
  · simp only [List.mem_singleton, Prod.mk.injEq, true_and] at hy
    exact hy ▸ ht⟩
end
end Go.Proofs.YtlhjbllfcbojmaaDoor

namespace Go.Proofs.YtlhjbllfcbojmaaDoor
open Go

section
variable {P : Program} {Q : Exit → Act → World → Prop} {a0 : Act} {w0 : World}
def upTo (k m : Nat) : Array Bool := Array.replicate k true ++ Array.replicate (m - k) false
theorem upTo_at {k m i : Nat} (hk : k ≤ m) (d : Bool) : (upTo k m).getD i d = if i < k then true else if i < m then false else d := by
  unfold upTo
  rw [Array.getD_eq_getD_getElem?, Array.getElem?_append]
  by_cases h1 : i < k
  · simp [h1]
  · by_cases h2 : i < m
    · simp [h1, h2, show i - k < m - k by omega]
    · simp [h1, h2, show ¬ i - k < m - k by omega]
theorem upTo_set {k m : Nat} (hk : k < m) : (upTo k m).setIfInBounds k true = upTo (k + 1) m := by
  refine Array.ext (by simp [upTo]; omega) fun i h1 h2 => ?_
  have e1 := upTo_at (k := k + 1) (m := m) (i := i) (by omega) false
  have e2 := upTo_at (k := k) (m := m) (i := i) (by omega) false
  have h3 : i < (upTo k m).size := by simpa using h1
  rw [Array.getElem_setIfInBounds h3]
  rw [Array.getD_eq_getD_getElem?, Array.getElem?_eq_getElem h2] at e1
  rw [Array.getD_eq_getD_getElem?, Array.getElem?_eq_getElem h3] at e2
  simp only [Option.getD_some] at e1 e2
  rw [e1]
  split
  · rename_i h
    subst h
    simp
  · rename_i h
    rw [e2]
    by_cases h4 : i < k
    · simp [h4, show i < k + 1 by omega]
    · simp [h4, show ¬ i < k + 1 by omega]
def seqmB (ops : Array Oper) (n sz : Nat) : Bool := Region.noSelect ops && decide (n ≤ ops.size) && topoB ops n && distB ops n sz
theorem wpList_monoR {l : List Oper} (n : Nat) (hB : seqmB l.toArray n a0.tmps.size = true)
    (h : MonoR P l.toArray n a0 w0 (fun Vs => ∀ w, w0.grownBy w none → FinN P l.toArray Q w Vs l a0) n [] l) : wpList P l.toArray Q l a0 w0 := by
  obtain ⟨hM', hn'⟩ := MonoN.cut (MonoR.up h)
  simp only [seqmB, Bool.and_eq_true, decide_eq_true_eq] at hB
  obtain ⟨⟨⟨hsel, hn⟩, htopo⟩, hdist⟩ := hB
  obtain ⟨Vs, hVl, hF, hO⟩ := Mono.out hM'
  simp only [List.reverse_nil, List.nil_append, List.length_nil, Nat.zero_add] at hF hO
  have htl : (l.take n).length = n := by simp; omega
  have hVn : Vs.length = n := hVl.trans htl
  have hsz : l.toArray.size = l.length := by simp
  have key : ∀ m k a w, k + m = n → MInv l.toArray n a0 w0 Vs (upTo k l.toArray.size) a w → wpList P l.toArray Q (l.drop k) a w := by
    intro m
    induction m with
    | zero =>
      intro k a w hk inv
      obtain rfl : k = n := by omega
      have hk : ∀ (q : Nat) (V : Pv) (o : Oper), Vs[q]? = some V → (l.take k)[q]? = some o → V.p (match o.dst with | some d => a.eval (.tmp d) | none => undef) w := by
        intro q V o hv ho
        have hqn : q < k := by have := (List.getElem?_eq_some_iff.1 hv).1; omega
        have h1 := inv.known q V (by rw [upTo_at hn]; simp [hqn]) hv
        have h2 : dstAt l.toArray q = o.dst := by
          have : l[q]? = some o := by rw [List.getElem?_take, if_pos hqn] at ho; exact ho
          simp [dstAt, this]
        rw [h2] at h1
        have h3 : (match o.dst with | some d => a.eval (.tmp d) | none => undef) = valOf o.dst a := by cases o.dst <;> rfl
        rw [h3]
        exact h1
      have hcut := FinN.cut (by rw [hVn]; omega) (hF w inv.grown)
      rw [hVn] at hcut
      have hfin := Fin'.all hVl hk hcut
      have hon : onto a ((l.take k).map (·.dst)) a0 = a := by
        refine act_ext (fun t => onto_at a t _ _ inv.tsize.symm ?_) ((onto_defers _ _ _).trans inv.defers.symm)
        by_cases ht : some t ∈ (l.take k).map (·.dst)
        · exact .inl ht
        · refine .inr (inv.rest t fun j hj _ e => ht ?_).symm
          have hjl : j < l.length := by omega
          have : l[j].dst = some t := by simpa [dstAt, hjl] using e
          exact List.mem_map.2 ⟨l[j], List.mem_iff_getElem?.2 ⟨j, by rw [List.getElem?_take, if_pos hj, List.getElem?_eq_getElem hjl]⟩, this⟩
      rw [hon] at hfin
      exact hfin
    | succ m ih =>
      intro k a w hk inv
      have hkn : k < n := by omega
      have hkl : k < l.length := by omega
      have ho : l.toArray[k]? = some l[k] := by simp [hkl]
      have hnext : (l.take n)[k]? = some l[k] := by rw [List.getElem?_take, if_pos hkn, List.getElem?_eq_getElem hkl]
      obtain ⟨V, js, hV, hchk, hask⟩ := hO k l[k] hnext
      simp only [Bool.and_eq_true] at hchk
      obtain ⟨hpair, hlook⟩ := hchk
      have hu : (upTo k l.toArray.size).getD k true = false := by rw [upTo_at (by omega)]; simp [hkl]
      have hed : ∀ e ∈ l[k].after, Region.binds .any e = true → (upTo k l.toArray.size).getD e.on false = true := fun e he hb => by
        have ht := list_all_range htopo hkn
        simp only [ho, Option.map_some, Option.getD_some] at ht
        have := Array.all_eq_true_iff_forall_mem.1 ht e he
        rw [upTo_at (by omega)]
        simp only [hb, Bool.not_true, Bool.false_or, decide_eq_true_eq] at this
        simp [this]
      have hi : k ∈ Region.ready .any l.toArray (upTo k l.toArray.size) := mem_ready.2 ⟨hu, _, ho, hed⟩
      have hdst : ∀ d, l[k].dst = some d → d < a.tmps.size := by
        intro d hd
        have := list_all_range hdist hkn
        have h2 : dstAt l.toArray k = some d := by simp only [dstAt, ho]; exact hd
        rw [h2] at this
        simp only [Bool.and_eq_true, decide_eq_true_eq] at this
        rw [inv.tsize]
        exact this.1
      have hjs : ∀ x : Nat × Tmp, x ∈ js → dstAt l.toArray x.1 = some x.2 ∧ (upTo k l.toArray.size).getD x.1 false = true ∧ x.1 < k := by
        intro x hx
        have := List.all_eq_true.1 hpair x hx
        simp only [Bool.and_eq_true, beq_iff_eq] at this
        obtain ⟨oj, hoj, e, he, hb, hon⟩ := Region.waitsFor_spec this.2
        have hoo : l[k] = oj := Option.some.inj (ho.symm.trans hoj)
        subst hoo
        have ht := list_all_range htopo hkn
        simp only [ho, Option.map_some, Option.getD_some] at ht
        have ht := Array.all_eq_true_iff_forall_mem.1 ht e he
        simp only [hb, Bool.not_true, Bool.false_or, decide_eq_true_eq] at ht
        exact ⟨this.1, by rw [← hon]; exact hed e he hb, by rw [← hon]; exact ht⟩
      have hA := hask w inv.grown
      have hW := Ask.all (b := a) (fun x hx => by
        obtain ⟨h1, h2, h3⟩ := hjs x hx
        have hxl : x.1 < Vs.length := by omega
        have h4 : Vs[x.1]? = some Vs[x.1] := List.getElem?_eq_getElem hxl
        have h5 := inv.known x.1 _ h2 h4
        rw [h1] at h5
        have : (Vs.take k).getD x.1 Pv.any = Vs[x.1] := by
          rw [List.getD_eq_getElem?_getD, List.getElem?_take, if_pos h3, h4]
          rfl
        rw [this]
        exact h5) hA
      have hop := told_op (Q := Q) (ops := l.toArray) (a0 := a0) (a := a) (Region.noSelect_spec hsel k l[k] · · ho) hdst ((onto_size _ _ _).trans inv.tsize.symm) (fun t ht => by
        refine onto_at a t _ _ inv.tsize.symm ?_
        have h1 : (l[k].looksAt l.toArray).all (fun t => js.any (·.2 == t) || keptB l.toArray n k t) = true := by
          simpa only [lookB, ho, Option.map_some, Option.getD_some] using hlook
        have h2 := List.all_eq_true.1 h1 t ht
        simp only [Bool.or_eq_true] at h2
        rcases h2 with h2 | h2
        · left
          obtain ⟨x, hx, hxt⟩ := List.any_eq_true.1 h2
          exact List.mem_map.2 ⟨x, hx, by rw [beq_iff_eq.1 hxt]⟩
        · right
          refine (inv.rest t fun j hj hD e => ?_).symm
          have h3 := list_all_range h2 hj
          simp only [Bool.or_eq_true, bne_iff_ne, ne_eq, beq_iff_eq] at h3
          rcases h3 with (h3 | h3) | h3
          · exact h3 e
          · obtain ⟨oj, hoj, e', he', hb', hon⟩ := Region.waitsFor_spec h3
            have := inv.head.closed j oj hoj hD e' he' hb'
            rw [hon, getD_both hu] at this
            cases this
          · subst h3
            rw [getD_both hu] at hD
            cases hD) ho (onto_defers _ _ _) hW
      have hstep : wpOp P l.toArray Q k (wpList P l.toArray Q (l.drop (k + 1))) a w := wpOp_mono (fun a' w' hk' => by
        obtain ⟨v, ha, hv, hg⟩ := hk'
        have := minv_step inv hdist hi hkn ho hV (by omega) ha hv hg
        rw [upTo_set (by omega)] at this
        exact ih (k + 1) a' w' (by omega) this) hop
      rw [List.drop_eq_getElem_cons hkl]
      unfold wpOp at hstep
      simp only [ho] at hstep
      exact hstep
  refine key n 0 a0 w0 (by omega) ⟨⟨by simp [upTo], fun j oj hj hD => by rw [upTo_at (by omega)] at hD; simp at hD, fun t _ ht => by rw [upTo_at (by omega)]; simp at ht; simp [ht]⟩, World.grownBy.refl w0 none, rfl, rfl, fun _ _ => rfl, fun j V hD => by rw [upTo_at (by omega)] at hD; simp at hD⟩
theorem wp_region_seqm {l : List Oper} {id : Nat} (n : Nat) (hB : seqmB l.toArray n a0.tmps.size = true)
    (h : MonoR P l.toArray n a0 w0 (fun Vs => ∀ w, w0.grownBy w none → FinN P l.toArray Q w Vs l a0) n [] l) : (Code.region id l.toArray false).wp P Q a0 w0 :=
  wp_region_lit (wpList_monoR n hB h)
end
end Go.Proofs.YtlhjbllfcbojmaaDoor

namespace Go.Proofs.YtlhjbllfcbojmaaDoor
open Go Go.RowKit

end Go.Proofs.YtlhjbllfcbojmaaDoor

namespace Go.Proofs.YtlhjbllfcbojmaaDoor
open Go Go.RowKit

end Go.Proofs.YtlhjbllfcbojmaaDoor

namespace Go.Proofs.YtlhjbllfcbojmaaDoor
open Go Go.RowKit

/-- A dealing that is not as long as it should be. -/
def badB (p : Par) (d : Int × List (List Int)) : Bool := !((d.2.length : Int) == secretsI p) || d.2.any (shortB p)
/-- The first j dealings are as long as they should be. -/
def OkTo (p : Par) (deals : List (Int × List (List Int))) (j : Nat) : Prop := ∀ i (h : i < deals.length), i < j → badB p deals[i] = false
theorem OkTo.all {p : Par} {deals : List (Int × List (List Int))} (h : OkTo p deals deals.length) : ∀ d ∈ deals, badB p d = false := fun d hd => by
  obtain ⟨i, hi, rfl⟩ := List.getElem_of_mem hd
  exact h i hi hi
theorem Bk.one {w : World} {b : Nat} {t : TypeId} {u : Value} (h : Bk w b t #[u]) : ∀ j v, [u][j]? = some v → w.cell? ⟨b, j, none⟩ = some v := fun j v hv => by rw [h.cell j]; simpa using hv
section
variable {α : Type} {P : Program} {E : Enc α} {base : Nat} {e : TypeId} {X : Nat → Prop} {w : World} {v : Value} {xs : List α}
end
end Go.Proofs.YtlhjbllfcbojmaaDoor

namespace Go.Proofs.YtlhjbllfcbojmaaDoor
open Go Go.RowKit Go.Shelf

attribute [local go_sem] Oper.semAt_some
theorem Sl.cap {α : Type} {E : Enc α} {X : Nat → Prop} {w : World} {A : Option Addr} {n c : Nat} {xs : List α} (h : Sl E X w (.slice A n c) xs) (c' : Nat) (h1 : n ≤ c') (h2 : c' ≤ 9223372036854775807) : Sl E X w (.slice A n c') xs := by
  obtain ⟨A', c0, e, _, _, h3⟩ := h
  injection e with e1 e2 _
  subst e1 e2
  exact ⟨_, c', rfl, h1, h2, h3⟩
end Go.Proofs.YtlhjbllfcbojmaaDoor

namespace Go.Proofs.YtlhjbllfcbojmaaDoor
open Go

/-- Where the worlds stand when some late operations are over, these having told values; and what the k-th of them does to what lay there. -/
structure Lt where
  C : List Value → World → Prop
  R : Nat → World → World → Prop
  g : ∀ {vs w w'}, C vs w → w.grownBy w' none → C vs w'
/-- What is known of a value, and stands: as long as nothing is written, and through the late operations from the fr-th on. -/
structure Qv (L : Lt) where
  p : List Value → Value → World → Prop
  fr : Nat
  st : ∀ {vs v w w'}, p vs v w → w.grownBy w' none → p vs v w'
  sr : ∀ {vs u v w w'}, fr ≤ vs.length → L.C vs w → L.R vs.length w w' → p vs v w → p (vs ++ [u]) v w'
def Qv.any {L : Lt} : Qv L := ⟨fun _ _ _ => True, 0, fun _ _ => trivial, fun _ _ _ _ => trivial⟩
def Qv.eq {L : Lt} (u : Value) : Qv L := ⟨fun _ v _ => v = u, 0, fun h _ => h, fun _ _ _ h => h⟩
/-- What the q-th late operation has told. -/
def Qv.slot {L : Lt} (q : Nat) : Qv L := ⟨fun vs v _ => vs[q]? = some v, q + 1, fun h _ => h, fun _ _ _ h => by
  have := (List.getElem?_eq_some_iff.1 h).1
  rw [List.getElem?_append_left this]
  exact h⟩
section
variable {L : Lt} {late : List Nat} {P : Program} {ops : Array Oper} {Q : Exit → Act → World → Prop} {n : Nat} {a0 : Act} {w0 : World}

def ToldL (T : Value → World → Prop) (dst : Option Tmp) (ds : List Deferred) : Exit → Act → World → Prop := fun e a' w' => e = .normal ∧ a'.defers = ds ∧ T (match dst with | some d => a'.eval (.tmp d) | none => undef) w'
def Ask' (P : Program) (ops : Array Oper) (vs : List Value) (Vs : List (Qv L)) (Qt : Exit → Act → World → Prop) (o : Oper) (w : World) : List (Nat × Tmp) → Act → Prop
  | [], a => wpList P ops Qt [o] a w
  | (j, d) :: js, a => ∀ x, (Vs.getD j Qv.any).p vs x w → Ask' P ops vs Vs Qt o w js (a.put (some d) x)
/-- What is asked of one operation. -/
def AskL (L : Lt) (late : List Nat) (P : Program) (ops : Array Oper) (Vs : List (Qv L)) (ds : List Deferred) (i : Nat) (V : Qv L) (o : Oper) (js : List (Nat × Tmp)) (a0 : Act) : Prop :=
  (late.contains i = false ∧ V.fr = 0 ∧ ∀ vs w, L.C vs w → Ask' P ops vs Vs (ToldL (fun v w' => V.p vs v w' ∧ w.grownBy w' none) o.dst ds) o w js a0) ∨
  (∃ q, late[q]? = some i ∧ V = Qv.slot q ∧ ∀ vs w, vs.length = q → L.C vs w → Ask' P ops vs Vs (ToldL (fun v w' => L.R q w w' ∧ L.C (vs ++ [v]) w') o.dst ds) o w js a0)
def LateR (L : Lt) (late : List Nat) (P : Program) (ops : Array Oper) (n : Nat) (a0 : Act) (F : List (Qv L) → Prop) : Nat → List (Qv L) → List Oper → Prop
  | 0, Rs, _ => F Rs.reverse
  | _ + 1, _, [] => False
  | k + 1, Rs, o :: os => ∃ (V : Qv L) (js : List (Nat × Tmp)), (pairB ops Rs.length js && lookB ops n Rs.length js) = true ∧ AskL L late P ops Rs.reverse a0.defers Rs.length V o js a0 ∧ LateR L late P ops n a0 F k (V :: Rs) os
theorem LateR.mono {F : List (Qv L) → Prop} {k : Nat} {Rs : List (Qv L)} {o : Oper} {os : List Oper} (V : Qv L) (js : List (Nat × Tmp)) (hc : (pairB ops Rs.length js && lookB ops n Rs.length js) = true) (hl : late.contains Rs.length = false) (hf : V.fr = 0) (hA : ∀ vs w, L.C vs w → Ask' P ops vs Rs.reverse (ToldL (fun v w' => V.p vs v w' ∧ w.grownBy w' none) o.dst a0.defers) o w js a0) (h : LateR L late P ops n a0 F k (V :: Rs) os) : LateR L late P ops n a0 F (k + 1) Rs (o :: os) := ⟨V, js, hc, .inl ⟨hl, hf, hA⟩, h⟩
theorem LateR.turn {F : List (Qv L) → Prop} {k : Nat} {Rs : List (Qv L)} {o : Oper} {os : List Oper} (q : Nat) (js : List (Nat × Tmp)) (hc : (pairB ops Rs.length js && lookB ops n Rs.length js) = true) (hl : late[q]? = some Rs.length) (hA : ∀ vs w, vs.length = q → L.C vs w → Ask' P ops vs Rs.reverse (ToldL (fun v w' => L.R q w w' ∧ L.C (vs ++ [v]) w') o.dst a0.defers) o w js a0) (h : LateR L late P ops n a0 F k (Qv.slot q :: Rs) os) : LateR L late P ops n a0 F (k + 1) Rs (o :: os) := ⟨Qv.slot q, js, hc, .inr ⟨q, hl, rfl, hA⟩, h⟩
theorem LateR.out {F : List (Qv L) → Prop} : ∀ {k : Nat} {Rs : List (Qv L)} {os : List Oper}, LateR L late P ops n a0 F k Rs os → k ≤ os.length ∧ ∃ Ws : List (Qv L), Ws.length = k ∧ F (Rs.reverse ++ Ws) ∧ ∀ m o, m < k → os[m]? = some o → ∃ V js, Ws[m]? = some V ∧ (pairB ops (Rs.length + m) js && lookB ops n (Rs.length + m) js) = true ∧ AskL L late P ops ((Rs.reverse ++ Ws).take (Rs.length + m)) a0.defers (Rs.length + m) V o js a0
  | 0, Rs, os, h => ⟨Nat.zero_le _, [], rfl, by rw [List.append_nil]; exact h, fun m o hm => by omega⟩
  | _ + 1, _, [], h => h.elim
  | k + 1, Rs, o :: os, ⟨V, js, hb, hA, hM⟩ => by
    obtain ⟨hkl, Ws, hl, hF, hk⟩ := LateR.out hM
    refine ⟨by simpa using hkl, V :: Ws, by simp [hl], by simpa using hF, fun m o' hm ho => ?_⟩
    cases m with
    | zero =>
      obtain rfl : o = o' := by simpa using ho
      refine ⟨V, js, rfl, hb, ?_⟩
      have : (Rs.reverse ++ V :: Ws).take (Rs.length + 0) = Rs.reverse := by
        rw [Nat.add_zero, ← List.length_reverse]
        exact List.take_left
      rw [this]
      exact hA
    | succ m =>
      obtain ⟨V', js', h1, h2, h3⟩ := hk m o' (by omega) (by simpa using ho)
      refine ⟨V', js', by simpa using h1, ?_, ?_⟩
      · simpa [Nat.add_assoc, Nat.add_comm 1 m] using h2
      · simpa [Nat.add_assoc, Nat.add_comm 1 m] using h3
def FinL' (G : Act → World → Prop) (vs : List Value) (w : World) : List (Qv L) → List Oper → Act → Prop
  | V :: Vs, o :: os, a => ∀ x, V.p vs x w → FinL' G vs w Vs os (a.put o.dst x)
  | _, _, a => G a w
theorem FinL'.all {G : Act → World → Prop} {vs : List Value} {w : World} {b : Act} : ∀ {Vs : List (Qv L)} {os : List Oper} {a : Act}, Vs.length = os.length → (∀ (k : Nat) (V : Qv L) (o : Oper), Vs[k]? = some V → os[k]? = some o → V.p vs (match o.dst with | some d => b.eval (.tmp d) | none => undef) w) → FinL' G vs w Vs os a → G (onto b (os.map (·.dst)) a) w
  | [], [], _, _, _, h => h
  | V :: Vs, o :: os, a, hl, hx, h => FinL'.all (Vs := Vs) (os := os) (by simpa using hl) (fun k V o hv ho => hx (k + 1) V o (by simpa using hv) (by simpa using ho)) (h _ (hx 0 V o rfl rfl))
  | [], _ :: _, _, hl, _, _ => by simp at hl
  | _ :: _, [], _, hl, _, _ => by simp at hl
theorem Ask'.all {vs : List Value} {Vs : List (Qv L)} {Qt : Exit → Act → World → Prop} {o : Oper} {w : World} {b : Act} : ∀ {js : List (Nat × Tmp)} {a : Act}, (∀ x : Nat × Tmp, x ∈ js → (Vs.getD x.1 Qv.any).p vs (b.eval (.tmp x.2)) w) → Ask' P ops vs Vs Qt o w js a → wpList P ops Qt [o] (onto b (js.map fun x => some x.2) a) w
  | [], _, _, h => h
  | (j, d) :: js, a, hx, h => Ask'.all (js := js) (fun x hm => hx x (List.mem_cons_of_mem _ hm)) (h _ (hx (j, d) (by simp)))
/-- Which late operations are over: the first k. -/
def Cls (L : Lt) (late : List Nat) (vs : List Value) (D : Array Bool) (w : World) : Prop := vs.length ≤ late.length ∧ L.C vs w ∧ ∀ q i, late[q]? = some i → (D.getD i false = true ↔ q < vs.length)
structure LInv (L : Lt) (late : List Nat) (ops : Array Oper) (n : Nat) (a0 : Act) (Vs : List (Qv L)) (vs : List Value) (D : Array Bool) (a : Act) (w : World) : Prop where
  head : HeadInv .any ops n D
  cls : Cls L late vs D w
  tsize : a.tmps.size = a0.tmps.size
  defers : a.defers = a0.defers
  rest : ∀ t, (∀ j, j < n → D.getD j false = true → dstAt ops j ≠ some t) → a.tmps[t]? = a0.tmps[t]?
  known : ∀ j V, D.getD j false = true → Vs[j]? = some V → V.p vs (valOf (dstAt ops j) a) w
theorem toldL_letsOut {T : Value → World → Prop} {dst : Option Tmp} {ds : List Deferred} : ¬ LetsOut (ToldL T dst ds) := by
  rintro ⟨a, w', e, _⟩
  cases e
def chainB (ops : Array Oper) (late : List Nat) : Bool := (List.range (late.length - 1)).all fun q => Region.waitsFor .any ops (late.getD (q + 1) 0) (late.getD q 0)
def lateB (ops : Array Oper) (n : Nat) (late : List Nat) : Bool := late.all (fun i => decide (i < n)) && decide late.Nodup && chainB ops late
theorem toldL_op {T : Value → World → Prop} {o : Oper} {a b : Act} {w : World} (hs : ∀ cs b, o.op ≠ .select cs b) (hd : ∀ d, o.dst = some d → d < a.tmps.size) (hsz : b.tmps.size = a.tmps.size) (hlook : ∀ t ∈ o.looksAt ops, b.tmps[t]? = a.tmps[t]?) {i : Nat} (hi : ops[i]? = some o)
    (hdf : b.defers = a0.defers) (h : wpList P ops (ToldL T o.dst a0.defers) [o] b w) : wpOp P ops Q i (fun a' w' => ∃ v, a' = a.put o.dst v ∧ T (match o.dst with | some _ => v | none => undef) w') a w := by
  have hex : execOp b.eval o = execOp a.eval o := execOp_congr o hs fun x hx => by
    cases x with
    | tmp t => exact eval_of _ _ _ (hlook t (List.mem_append_left _ (List.mem_filterMap.2 ⟨.tmp t, by simpa using hx, rfl⟩)))
    | _ => rfl
  have hwn : Region.wanted o (yielded ops b.tmps) = Region.wanted o (yielded ops a.tmps) := by
    unfold Region.wanted
    cases hg : o.guard with
    | none => rfl
    | some gw =>
      obtain ⟨g, want⟩ := gw
      have hy : yielded ops b.tmps g = yielded ops a.tmps g := by
        unfold yielded
        cases ht : (ops[g]?).bind (·.dst) with
        | none => rfl
        | some t => simp only [Option.bind_some, hlook t (by simp [Oper.looksAt, hg, ht])]
      simp only [hy]
  have fin : ∀ v w', ToldL T o.dst a0.defers .normal (b.put o.dst v) w' → ∃ v', a.put o.dst v = a.put o.dst v' ∧ T (match o.dst with | some _ => v' | none => undef) w' := by
    rintro v w' ⟨_, _, h1⟩
    refine ⟨v, rfl, ?_⟩
    cases hdd : o.dst with
    | none => rw [hdd] at h1; exact h1
    | some d =>
      rw [hdd] at h1
      have hlt := hd d hdd
      have : (b.put (some d) v).eval (.tmp d) = v := by simp [Act.put, Act.eval, Array.getD_eq_getD_getElem?, hsz, hlt]
      simp only [this] at h1
      exact h1
  unfold wpOp
  simp only [hi]
  simp only [wpList, hwn] at h
  split
  · rename_i hw
    rw [if_pos hw] at h
    rcases h with h | h
    · left
      unfold Oper.wp at h ⊢
      rw [hex] at h
      generalize (execOp a.eval o).run P w = r at *
      cases r with
      | ok x w' =>
        cases x with
        | value v => exact fin v w' h
        | skip => exact fin undef w' h
        | enter f args =>
          refine Calls.mono h fun e w'' he => ?_
          cases e with
          | returned u => exact fin u w'' he
          | panicked c => exact absurd he.1 (by simp)
          | outgrown => exact absurd he toldL_letsOut
        | row row args => exact Rows.mono h fun u w'' he => fin u w'' he
        | defer d =>
          obtain ⟨_, h1, _⟩ := h
          have h1 : (Act.put { b with defers := d :: b.defers } o.dst undef).defers = a0.defers := h1
          rw [put_defers, ← hdf] at h1
          exact absurd (congrArg List.length h1) (by simp)
        | _ => exact h.elim
      | halt x w' =>
        cases x with
        | panic v => exact absurd h.1 (by simp)
        | _ => exact h.elim
    · exact absurd h.2 toldL_letsOut
  · rename_i hw
    rw [if_neg hw] at h
    exact fin undef w h
theorem linv_step {L : Lt} {late : List Nat} {vs vs2 : List Value} {Vs : List (Qv L)} {D : Array Bool} {a a' : Act} {w w' : World} {i : Nat} {o : Oper} {V : Qv L} {v : Value} (inv : LInv L late ops n a0 Vs vs D a w) (hd : distB ops n a0.tmps.size = true) (hi : i ∈ Region.ready .any ops D) (hin : i < n) (ho : ops[i]? = some o) (hV : Vs[i]? = some V) (hnl : Vs.length ≤ n)
    (ha : a' = a.put o.dst v) (hv : V.p vs2 (match o.dst with | some _ => v | none => undef) w') (hg : ∀ (W : Qv L) (j : Nat), D.getD j false = true → Vs[j]? = some W → ∀ {u : Value}, W.p vs u w → W.p vs2 u w') (hcl : Cls L late vs2 (D.setIfInBounds i true) w') : LInv L late ops n a0 Vs vs2 (D.setIfInBounds i true) a' w' := by
  subst ha
  have hdi : dstAt ops i = o.dst := by simp [dstAt, ho]
  have hun : D.getD i true = false := (mem_ready.1 hi).1
  have hlt : i < D.size := by
    rcases Nat.lt_or_ge i D.size with h' | h'
    · exact h'
    · simp [Array.getElem?_eq_none h'] at hun
  refine ⟨inv.head.set hi hin, hcl, (put_size _ _ _).trans inv.tsize, (put_defers _ _ _).trans inv.defers, fun t ht => ?_, fun j W hj hW => ?_⟩
  · have h1 : o.dst ≠ some t := fun e => ht i hin (by simp [hlt]) (hdi.trans e)
    refine Eq.trans ?_ (inv.rest t fun j hj hD => ht j hj (getD_set_true hD))
    cases hdd : o.dst with
    | none => rfl
    | some d => exact put_at _ _ _ _ (fun e => h1 (by rw [hdd, e]))
  · by_cases e : i = j
    · subst e
      obtain rfl : V = W := Option.some.inj (hV.symm.trans hW)
      rw [hdi]
      cases hdd : o.dst with
      | none => rw [hdd] at hv; exact hv
      | some d =>
        rw [hdd] at hv
        have hds := list_all_range hd hin
        rw [hdi, hdd] at hds
        simp only [Bool.and_eq_true, decide_eq_true_eq] at hds
        have : (a.put (some d) v).eval (.tmp d) = v := by simp [Act.put, Act.eval, Array.getD_eq_getD_getElem?, inv.tsize, hds.1]
        show V.p vs2 ((a.put (some d) v).eval (.tmp d)) w'
        rw [this]
        exact hv
    · have hjn : j < n := by have := (List.getElem?_eq_some_iff.1 hW).1; omega
      rw [getD_set_ne false e] at hj
      have h1 := hg W j hj hW (inv.known j W hj hW)
      cases hdj : dstAt ops j with
      | none => rw [hdj] at h1; exact h1
      | some dj =>
        rw [hdj] at h1
        have h1 : W.p vs2 (a.eval (.tmp dj)) w' := h1
        show W.p vs2 ((a.put o.dst v).eval (.tmp dj)) w'
        cases hdd : o.dst with
        | none => exact h1
        | some d =>
          have hds := list_all_range hd hin
          rw [hdi, hdd] at hds
          simp only [Bool.and_eq_true, decide_eq_true_eq] at hds
          have h2 := list_all_range hds.2 hjn
          simp only [Bool.or_eq_true, beq_iff_eq, bne_iff_ne, ne_eq] at h2
          have h3 : d ≠ dj := fun e' => (h2.resolve_left (fun e2 => e e2.symm)) (by rw [hdj, e'])
          rw [eval_of _ a dj (put_at a d dj v h3)]
          exact h1
/-- The law. -/
theorem wpAny_late {l : List Oper} (n : Nat) (hB : monoB l.toArray n a0.tmps.size = true) (hBl : lateB l.toArray n late = true) (hC0 : L.C [] w0)
    (h : LateR L late P l.toArray n a0 (fun Vs => ∀ vs w, vs.length = late.length → L.C vs w → FinL' (fun a w => wpList P l.toArray Q (l.drop n) a w) vs w Vs (l.take n) a0) n [] l) : wpAny P .any l.toArray Q l.toArray.size (Array.replicate l.toArray.size false) a0 w0 := by
  simp only [monoB, Bool.and_eq_true, decide_eq_true_eq] at hB
  obtain ⟨⟨⟨⟨hsel, hn⟩, htail⟩, htopo⟩, hdist⟩ := hB
  simp only [tailB, Bool.and_eq_true] at htail
  obtain ⟨hblk, hseq⟩ := htail
  simp only [lateB, Bool.and_eq_true, decide_eq_true_eq] at hBl
  obtain ⟨⟨hlt0, hnd⟩, hch⟩ := hBl
  have hlate : ∀ i ∈ late, i < n := fun i hi => by simpa using List.all_eq_true.1 hlt0 i hi
  have hchain : ∀ q, q + 1 < late.length → ∀ i, late[q + 1]? = some i → ∀ i', late[q]? = some i' → Region.waitsFor .any l.toArray i i' = true := fun q hq i h1 i' h2 => by
    have := list_all_range hch (show q < late.length - 1 by omega)
    rw [List.getD_eq_getElem?_getD, List.getD_eq_getElem?_getD, h1, h2] at this
    exact this
  obtain ⟨_, Vs, hVl, hF, hO⟩ := LateR.out h
  rw [List.reverse_nil, List.nil_append] at hF
  simp only [List.reverse_nil, List.nil_append, List.length_nil, Nat.zero_add] at hO
  have hnl : n ≤ l.length := by simpa using hn
  have htl : (l.take n).length = n := by simp; omega
  have hVn : Vs.length = n := hVl
  have hfr : ∀ j W, Vs[j]? = some W → (late.contains j = false ∧ W.fr = 0) ∨ ∃ q, late[q]? = some j ∧ W.fr ≤ q + 1 := fun j W hW => by
    have hj : j < n := by have := (List.getElem?_eq_some_iff.1 hW).1; omega
    obtain ⟨V, js, hV, _, hask⟩ := hO j l[j] hj (List.getElem?_eq_getElem (by omega))
    obtain rfl : V = W := Option.some.inj (hV.symm.trans hW)
    rcases hask with ⟨h1, h2, _⟩ | ⟨q, h1, h2, _⟩
    · exact .inl ⟨h1, h2⟩
    · exact .inr ⟨q, h1, by rw [h2]; exact Nat.le_refl _⟩
  have hdl : (l.drop n).length = l.toArray.size - n := by simp
  have hnext : ∀ i o, i < n → l.toArray[i]? = some o → (l.take n)[i]? = some o := fun i o hi ho => by
    rw [List.getElem?_take, if_pos hi]
    simpa using ho
  have key : ∀ m vs D a w, LInv L late l.toArray n a0 Vs vs D a w → cnt D n = m → wpAny P .any l.toArray Q (m + (l.toArray.size - n)) D a w := by
    intro m
    induction m with
    | zero =>
      intro vs D a w inv hc
      have hall := cnt_zero hc
      have hD : D = Array.replicate n true ++ Array.replicate (l.toArray.size - n) false := by
        have hsz := inv.head.size
        refine Array.ext (by simp [hsz]; omega) fun i h1 h2 => ?_
        rw [Array.getElem_append]
        by_cases hi : i < n
        · have := hall i hi
          simp [h1] at this
          simp [hi, this]
        · have := inv.head.tail i (by omega) (by omega)
          simp [h1] at this
          simp [hi, this]
      have hk : ∀ (k : Nat) (V : Qv L) (o : Oper), Vs[k]? = some V → (l.take n)[k]? = some o → V.p vs (match o.dst with | some d => a.eval (.tmp d) | none => undef) w := by
        intro k V o hv ho
        have hkn : k < n := by have := (List.getElem?_eq_some_iff.1 hv).1; omega
        have h1 := inv.known k V (hall k hkn) hv
        have h2 : dstAt l.toArray k = o.dst := by
          have : l[k]? = some o := by rw [List.getElem?_take, if_pos hkn] at ho; exact ho
          simp [dstAt, this]
        rw [h2] at h1
        have h3 : (match o.dst with | some d => a.eval (.tmp d) | none => undef) = valOf o.dst a := by cases o.dst <;> rfl
        rw [h3]
        exact h1
      have hcl : vs.length = late.length ∧ L.C vs w := by
        obtain ⟨hk0, hk1, hk2⟩ := inv.cls
        rcases Nat.lt_or_ge vs.length late.length with h | h
        case inr => exact ⟨by omega, hk1⟩
        · have h1 := (hk2 vs.length late[vs.length] (List.getElem?_eq_getElem h)).1 (hall _ (hlate _ (List.getElem_mem h)))
          omega
      have hfin := FinL'.all (hVl.trans htl.symm) hk (hF vs w hcl.1 hcl.2)
      have hon : onto a ((l.take n).map (·.dst)) a0 = a := by
        refine act_ext (fun t => onto_at a t _ _ inv.tsize.symm ?_) ((onto_defers _ _ _).trans inv.defers.symm)
        by_cases ht : some t ∈ (l.take n).map (·.dst)
        · exact .inl ht
        · refine .inr (inv.rest t fun j hj _ e => ht ?_).symm
          have hjl : j < l.length := by omega
          have : l[j].dst = some t := by simpa [dstAt, hjl] using e
          exact List.mem_map.2 ⟨l[j], List.mem_iff_getElem?.2 ⟨j, by rw [List.getElem?_take, if_pos hj, List.getElem?_eq_getElem hjl]⟩, this⟩
      rw [hon] at hfin
      have := wpAny_of_seq (md := .any) (Q' := Q) (l.drop n) n D a w (fun j => by simp [List.getElem?_drop]) (by rw [hdl, hD]; exact hseq) hfin
      rw [hdl] at this
      rwa [Nat.zero_add]
    | succ m ih =>
      intro vs D a w inv hc
      have hready : ∀ i ∈ Region.ready .any l.toArray D, i < n := by
        intro i hi
        rcases Nat.lt_or_ge i n with h' | h'
        · exact h'
        · obtain ⟨hu, oi, hoi, hall⟩ := mem_ready.1 hi
          have hlt : i < l.toArray.size := (Array.getElem?_eq_some_iff.1 hoi).1
          exfalso
          obtain ⟨k, hk, hkd⟩ : ∃ k, k < n ∧ D.getD k false = false := by
            refine Classical.byContradiction fun hno => ?_
            have : ∀ k, k ≤ n → cnt D k = 0 := by
              intro k
              induction k with
              | zero => intro _; rfl
              | succ k ihk =>
                intro hk
                have h1 : D.getD k false = true := by
                  refine Classical.byContradiction fun hx => hno ⟨k, by omega, by simpa using hx⟩
                simp only [cnt, h1, ihk (by omega)]
                rfl
            rw [this n (Nat.le_refl _)] at hc
            omega
          have hb := list_all_range hblk hlt
          simp only [Bool.or_eq_true, decide_eq_true_eq] at hb
          have hb := list_all_range (hb.resolve_left (by omega)) hk
          simp only [Bool.not_eq_true'] at hb
          have hik : i ≠ k := by omega
          have : av l.toArray k n i = true := by
            have hav := fun f j hj => av_of (ops := l.toArray) inv.head.closed inv.head.size hkd f j hj
            cases hn0 : n with
            | zero => simp [av, hik]
            | succ f =>
              simp only [av, hoi, Option.map_some, Option.getD_some, Bool.and_eq_true, bne_iff_ne]
              refine ⟨hik, ?_⟩
              rw [Array.all_eq_true_iff_forall_mem]
              intro e he
              by_cases hbd : Region.binds .any e = true
              · simp [hbd, hav f e.on (hall e he hbd)]
              · simp [hbd]
          rw [hb] at this
          cases this
      have hne : Region.ready .any l.toArray D ≠ [] := by
        have hex : ∃ k, k < n ∧ D.getD k false = false ∧ ∀ j, j < k → D.getD j false = true := by
          have : ∀ k, k ≤ n → (∃ q, q < k ∧ D.getD q false = false ∧ ∀ j, j < q → D.getD j false = true) ∨ (cnt D k = 0) := by
            intro k
            induction k with
            | zero => intro _; exact .inr rfl
            | succ k ihk =>
              intro hk
              rcases ihk (by omega) with ⟨q, h1, h2⟩ | h0
              · exact .inl ⟨q, by omega, h2⟩
              · cases hq : D.getD k false with
                | true => right; simp only [cnt, hq, h0]; rfl
                | false => exact .inl ⟨k, by omega, hq, cnt_zero h0⟩
          rcases this n (Nat.le_refl _) with ⟨q, h1, h2⟩ | h0
          · exact ⟨q, h1, h2⟩
          · omega
        obtain ⟨k, hk, hkd, hbel⟩ := hex
        have hkl : k < l.toArray.size := by omega
        have ho : l.toArray[k]? = some l.toArray[k] := Array.getElem?_eq_getElem hkl
        have : k ∈ Region.ready .any l.toArray D := by
          refine mem_ready.2 ⟨getD_in (by rw [inv.head.size]; exact hkl) hkd, _, ho, fun e he hb => hbel _ ?_⟩
          have ht := list_all_range htopo hk
          simp only [ho, Option.map_some, Option.getD_some] at ht
          have := Array.all_eq_true_iff_forall_mem.1 ht e he
          simpa [hb] using this
        intro e
        rw [e] at this
        cases this
      rw [show m + 1 + (l.toArray.size - n) = (m + (l.toArray.size - n)) + 1 by omega]
      refine ⟨fun e => absurd e hne, fun i hi => ?_⟩
      have hin := hready i hi
      obtain ⟨hu, o, ho, hall⟩ := mem_ready.1 hi
      obtain ⟨V, js, hV, hchk, hask⟩ := hO i o hin (by simpa using ho)
      simp only [Bool.and_eq_true] at hchk
      obtain ⟨hpair, hlook⟩ := hchk
      have hdst : ∀ d, o.dst = some d → d < a.tmps.size := by
        intro d hd
        have := list_all_range hdist hin
        have h2 : dstAt l.toArray i = some d := by simp only [dstAt, ho]; exact hd
        rw [h2] at this
        simp only [Bool.and_eq_true, decide_eq_true_eq] at this
        rw [inv.tsize]
        exact this.1
      have hjs : ∀ x : Nat × Tmp, x ∈ js → dstAt l.toArray x.1 = some x.2 ∧ D.getD x.1 false = true ∧ x.1 < i := by
        intro x hx
        have := List.all_eq_true.1 hpair x hx
        simp only [Bool.and_eq_true, beq_iff_eq] at this
        obtain ⟨oj, hoj, e, he, hb, hon⟩ := Region.waitsFor_spec this.2
        obtain rfl : o = oj := Option.some.inj (ho.symm.trans hoj)
        have ht := list_all_range htopo hin
        simp only [ho, Option.map_some, Option.getD_some] at ht
        have ht := Array.all_eq_true_iff_forall_mem.1 ht e he
        simp only [hb, Bool.not_true, Bool.false_or, decide_eq_true_eq] at ht
        exact ⟨this.1, by rw [← hon]; exact hall e he hb, by rw [← hon]; exact ht⟩
      have hget : ∀ x : Nat × Tmp, x ∈ js → ((Vs.take i).getD x.1 Qv.any).p vs (a.eval (.tmp x.2)) w := fun x hx => by
        obtain ⟨h1, h2, h3⟩ := hjs x hx
        have hxl : x.1 < Vs.length := by omega
        have h4 : Vs[x.1]? = some Vs[x.1] := List.getElem?_eq_getElem hxl
        have h5 := inv.known x.1 _ h2 h4
        rw [h1] at h5
        have : (Vs.take i).getD x.1 Qv.any = Vs[x.1] := by
          rw [List.getD_eq_getElem?_getD, List.getElem?_take, if_pos h3, h4]
          rfl
        rw [this]
        exact h5
      obtain ⟨hk0, hk1, hk2⟩ := inv.cls
      have hlk : ∀ t ∈ o.looksAt l.toArray, (onto a (js.map fun x => some x.2) a0).tmps[t]? = a.tmps[t]? := fun t ht => by
        refine onto_at a t _ _ inv.tsize.symm ?_
        have h1 : (o.looksAt l.toArray).all (fun t => js.any (·.2 == t) || keptB l.toArray n i t) = true := by
          simpa only [lookB, ho, Option.map_some, Option.getD_some] using hlook
        have h2 := List.all_eq_true.1 h1 t ht
        simp only [Bool.or_eq_true] at h2
        rcases h2 with h2 | h2
        · left
          obtain ⟨x, hx, hxt⟩ := List.any_eq_true.1 h2
          exact List.mem_map.2 ⟨x, hx, by rw [beq_iff_eq.1 hxt]⟩
        · right
          refine (inv.rest t fun j hj hD e => ?_).symm
          have h3 := list_all_range h2 hj
          simp only [Bool.or_eq_true, bne_iff_ne, ne_eq, beq_iff_eq] at h3
          rcases h3 with (h3 | h3) | h3
          · exact h3 e
          · obtain ⟨oj, hoj, e', he', hb', hon⟩ := Region.waitsFor_spec h3
            have := inv.head.closed j oj hoj hD e' he' hb'
            rw [hon, getD_both hu] at this
            cases this
          · subst h3
            rw [getD_both hu] at hD
            cases hD
      obtain ⟨T, hA, hS⟩ : ∃ T : Value → World → Prop, Ask' P l.toArray vs (Vs.take i) (ToldL T o.dst a0.defers) o w js a0 ∧ (∀ v w', T v w' → ∃ vs2, V.p vs2 v w' ∧ (∀ (W : Qv L) (j : Nat), D.getD j false = true → Vs[j]? = some W → ∀ {u : Value}, W.p vs u w → W.p vs2 u w') ∧ Cls L late vs2 (D.setIfInBounds i true) w') := by
        rcases hask with ⟨hnl', _, hA⟩ | ⟨q, hq, hVq, hA⟩
        · have hne : ∀ q i', late[q]? = some i' → i ≠ i' := fun q i' hq e => by
            subst e
            have := List.contains_iff_mem.2 (List.mem_of_getElem? hq)
            rw [hnl'] at this
            cases this
          exact ⟨_, hA vs w hk1, fun v w' hg => ⟨vs, hg.1, fun W j _ _ _ hp => W.st hp hg.2, hk0, L.g hk1 hg.2, fun q i' hq => by rw [getD_set_ne false (hne q i' hq)]; exact hk2 q i' hq⟩⟩
        · have hDi : D.getD i false = false := getD_both hu
          have h1 : ¬ q < vs.length := fun h => by have := (hk2 q i hq).2 h; rw [hDi] at this; cases this
          have h2 : q ≤ vs.length := by
            cases q with
            | zero => omega
            | succ q =>
              have hql : q < late.length := by have := (List.getElem?_eq_some_iff.1 hq).1; omega
              have hw := hchain q (by have := (List.getElem?_eq_some_iff.1 hq).1; omega) i hq late[q] (List.getElem?_eq_getElem hql)
              obtain ⟨oj, hoj, e, he, hb, hon⟩ := Region.waitsFor_spec hw
              obtain rfl : o = oj := Option.some.inj (ho.symm.trans hoj)
              have h3 := hall e he hb
              rw [hon] at h3
              have := (hk2 q _ (List.getElem?_eq_getElem hql)).1 h3
              omega
          obtain rfl : q = vs.length := by omega
          refine ⟨_, hA vs w rfl hk1, fun v w' hg => ⟨vs ++ [v], (by rw [hVq]; show (vs ++ [v])[vs.length]? = some v; simp), fun W j hj hW _ hp => W.sr ?_ hk1 hg.1 hp, by rw [List.length_append]; exact (List.getElem?_eq_some_iff.1 hq).1, hg.2, fun q' i' hq' => ?_⟩⟩
          · rcases hfr j W hW with ⟨_, h4⟩ | ⟨q', hq', h4⟩
            · rw [h4]; exact Nat.zero_le _
            · have := (hk2 q' j hq').1 hj
              omega
          · by_cases e : i = i'
            · subst e
              have hqq : q' = vs.length := by
                have h5 := (List.getElem?_eq_some_iff.1 hq').1
                skip
                exact (List.getElem?_inj h5 hnd).1 (hq'.trans hq.symm)
              have hlt : i < D.size := by
                rw [inv.head.size]
                exact (Array.getElem?_eq_some_iff.1 ho).1
              simp [hlt, hqq]
            · rw [getD_set_ne false e, hk2 q' i' hq']
              have : q' ≠ vs.length := fun e' => e (by rw [e', hq] at hq'; exact Option.some.inj hq')
              simp only [List.length_append, List.length_singleton]
              omega
      have hW := Ask'.all (b := a) hget hA
      have hop := toldL_op (Q := Q) (ops := l.toArray) (a0 := a0) (a := a) (Region.noSelect_spec hsel i o · · ho) hdst ((onto_size _ _ _).trans inv.tsize.symm) hlk ho (onto_defers _ _ _) hW
      refine wpOp_mono (fun a' w' hk => ?_) hop
      obtain ⟨v, ha, hT⟩ := hk
      obtain ⟨vs2, hv, hs, hcl⟩ := hS _ w' hT
      exact ih vs2 _ a' w' (linv_step inv hdist hi hin ho hV (by omega) ha hv hs hcl) (by have := (cnt_set (D := D) (i := i) n).2 hin hu; omega)
  have h0 := key n [] (Array.replicate l.toArray.size false) a0 w0 ⟨⟨by simp, (fun j oj _ hD => by rw [getD_replicate_false] at hD; cases hD), fun t _ ht => by simp only [List.size_toArray] at ht ⊢; simp [ht]⟩, ⟨Nat.zero_le _, hC0, fun q i hq => by rw [getD_replicate_false]; simp⟩, rfl, rfl, fun _ _ => rfl, (fun j V hD => by rw [getD_replicate_false] at hD; cases hD)⟩ (cnt_false _ n)
  rwa [show n + (l.toArray.size - n) = l.toArray.size by omega] at h0
/-- One operation that is carried out .. -/
theorem askl_do {T : Value → World → Prop} {ds : List Deferred} {o : Oper} {a : Act} {w : World} (hw : Region.wanted o (yielded ops a.tmps) = true)
    (h : ∀ K' : Act → World → Prop, (∀ a' w', a'.defers = ds → T (match o.dst with | some d => a'.eval (.tmp d) | none => undef) w' → K' a' w') → o.wp P a w K' (ToldL T o.dst ds)) : wpList P ops (ToldL T o.dst ds) [o] a w := by
  unfold wpList
  rw [if_pos hw]
  exact .inl (h _ fun a' w' h1 h2 => ⟨rfl, h1, h2⟩)
/-- What is behind them. -/
def FinL (P : Program) (ops : Array Oper) (Q : Exit → Act → World → Prop) (vs : List Value) (w : World) : List (Qv L) → List Oper → Act → Prop
  | V :: Vs, o :: os, a => ∀ x, V.p vs x w → FinL P ops Q vs w Vs os (a.put o.dst x)
  | _, os, a => wpList P ops Q os a w
theorem FinL.cut {vs : List Value} {w : World} : ∀ {Vs : List (Qv L)} {os : List Oper} {a : Act}, Vs.length ≤ os.length → FinL P ops Q vs w Vs os a → FinL' (fun a w => wpList P ops Q (os.drop Vs.length) a w) vs w Vs (os.take Vs.length) a
  | [], os, a, _, h => by
    have h : wpList P ops Q os a w := by cases os <;> exact h
    exact h
  | V :: Vs, [], a, hl, _ => by simp at hl
  | V :: Vs, o :: os, a, hl, h => fun x hx => FinL.cut (Vs := Vs) (os := os) (by simpa using hl) (h x hx)
theorem LateR.weak {F G : List (Qv L) → Prop} : ∀ {k : Nat} {Rs : List (Qv L)} {os : List Oper}, LateR L late P ops n a0 F k Rs os → (∀ Ws, Ws.length = Rs.length + k → F Ws → G Ws) → LateR L late P ops n a0 G k Rs os
  | 0, Rs, _, h, hg => hg _ (by simp) h
  | _ + 1, _, [], h, _ => h.elim
  | k + 1, Rs, o :: os, ⟨V, js, hb, hA, hM⟩, hg => ⟨V, js, hb, hA, LateR.weak hM fun Ws hW => hg Ws (by simp at hW ⊢; omega)⟩
theorem wpAny_lateR {l : List Oper} (n : Nat) (hB : monoB l.toArray n a0.tmps.size = true) (hBl : lateB l.toArray n late = true) (hC0 : L.C [] w0)
    (h : LateR L late P l.toArray n a0 (fun Vs => ∀ vs w, vs.length = late.length → L.C vs w → FinL P l.toArray Q vs w Vs l a0) n [] l) : wpAny P .any l.toArray Q l.toArray.size (Array.replicate l.toArray.size false) a0 w0 := by
  refine wpAny_late n hB hBl hC0 (LateR.weak h fun Ws hW hF vs w hvl hw => ?_)
  have hn := (LateR.out h).1
  have hl : Ws.length = n := by simpa using hW
  have := FinL.cut (by rw [hl]; exact hn) (hF vs w hvl hw)
  rwa [hl] at this
theorem wp_region_late {l : List Oper} {id : Nat} (L : Lt) (late : List Nat) (n : Nat) (hm : P.follows .mixedOrders = true) (hB : monoB l.toArray n a0.tmps.size = true) (hBl : lateB l.toArray n late = true) (hC0 : L.C [] w0.drew)
    (h : LateR L late P l.toArray n a0 (fun Vs => ∀ vs w, vs.length = late.length → L.C vs w → FinL P l.toArray Q vs w Vs l a0) n [] l) : (Code.region id l.toArray true).wp P Q a0 w0 :=
  wp_region_any hm (wpAny_lateR n hB hBl hC0 h)
end
end Go.Proofs.YtlhjbllfcbojmaaDoor

namespace Go.Proofs.YtlhjbllfcbojmaaDoor
open Go Go.RowKit Go.Shelf

attribute [local go_sem] Oper.semAt_some
/-- Two lists built side by side. -/
structure Side {α β : Type} (E : Enc α) (F : Enc β) (base : Nat) (e f : TypeId) (Z : Nat → Prop) (w : World) (v u : Value) (xs : List α) (ys : List β) : Prop where
  fst : Acc E base e (fun g => Z g ∧ some g ≠ u.ownBlock) w v xs
  snd : Acc F base f (fun g => Z g ∧ some g ≠ v.ownBlock) w u ys
section
variable {α β : Type} {E : Enc α} {F : Enc β} {base : Nat} {e f : TypeId} {Z : Nat → Prop} {w w' : World} {v u v' u' : Value} {xs xs' : List α} {ys ys' : List β}
theorem Side.kept (h : Side E F base e f Z w v u xs ys) (hg : w.grownBy w' none) : Side E F base e f Z w' v u xs ys := ⟨h.fst.kept hg, h.snd.kept hg⟩
theorem Side.swap (h : Side E F base e f Z w v u xs ys) : Side F E base f e Z w u v ys xs := ⟨h.snd, h.fst⟩
theorem Side.one (h : Side E F base e f Z w v u xs ys) (ha : Acc E base e (fun g => Z g ∧ some g ≠ u.ownBlock) w' v' xs') (hg : w.grownBy w' v.ownBlock) (hm : Moved w v v') : Side E F base e f Z w' v' u xs' ys := by
  refine ⟨ha, ?_⟩
  have h1 : Acc F base f (fun g => (Z g ∧ some g ≠ v'.ownBlock) ∧ some g ≠ v.ownBlock) w u ys := h.snd.more fun g hg hx => ⟨⟨hx.1, fun e => hm.ne hg (fun e' => hx.2 e'.symm) e.symm⟩, hx.2⟩
  exact (h1.keep hg fun g hx => hx.2).more fun g _ hx => hx.1
theorem Side.two (h : Side E F base e f Z w v u xs ys) (ha : Acc F base f (fun g => Z g ∧ some g ≠ v.ownBlock) w' u' ys') (hg : w.grownBy w' u.ownBlock) (hm : Moved w u u') : Side E F base e f Z w' v u' xs ys' := (h.swap.one ha hg hm).swap
end
theorem Side.keep {α β : Type} {E : Enc α} {F : Enc β} {base : Nat} {e f : TypeId} {Z : Nat → Prop} {w w' : World} {v u : Value} {xs : List α} {ys : List β} {row : Option Nat} (h : Side E F base e f Z w v u xs ys) (hg : w.grownBy w' row) (hZ : ∀ g, Z g → some g ≠ row) : Side E F base e f Z w' v u xs ys := ⟨h.fst.keep hg fun g hx => hZ g hx.1, h.snd.keep hg fun g hx => hZ g hx.1⟩
theorem Side.keepc {α β : Type} {E : Enc α} {F : Enc β} {base : Nat} {e f : TypeId} {Z : Nat → Prop} {w w' : World} {v u : Value} {xs : List α} {ys : List β} {row : Option Nat} (h : Side E F base e f Z w v u xs ys) (hg : w.grownBy w' row) (hr : ∀ r, row = some r → ∃ o : Obj, w.heap[r]? = some o ∧ o.isCells = false) : Side E F base e f Z w' v u xs ys := ⟨h.fst.keepc hg hr, h.snd.keepc hg hr⟩
section
variable {base : Nat} {W wd w' w3 : World} {vW vB u v3 : Value} {g8 d : Nat} {bv : Int} {xsW : List (List Int)} {xsB : List Int} {yW : List Int}
end
theorem Sl.shape {α : Type} {E : Enc α} {X : Nat → Prop} {w : World} {v : Value} {xs : List α} (h : Sl E X w v xs) : ∃ A n c, v = .slice A n c := by
  obtain ⟨A, c, e, _, _⟩ := h.form
  exact ⟨_, _, _, e⟩
end Go.Proofs.YtlhjbllfcbojmaaDoor

namespace Go.Proofs.YtlhjbllfcbojmaaDoor
open Go.RowKit

end Go.Proofs.YtlhjbllfcbojmaaDoor

namespace Go.Proofs.YtlhjbllfcbojmaaDoor
open Go Go.RowKit

end Go.Proofs.YtlhjbllfcbojmaaDoor

namespace Go.Proofs.YtlhjbllfcbojmaaDoor
open Go Go.RowKit

def invF (a m : Int) : Option Nat := (List.range m.toNat).find? fun x => (a * (x : Int)) % m == 1 % m
theorem invF_some {a m : Int} {x : Nat} (h : invF a m = some x) : (x : Int) < m ∧ Cg m (a * x) 1 := by
  have h1 := List.find?_some h
  have h2 := List.mem_of_find?_eq_some h
  have h3 := List.mem_range.1 h2
  refine ⟨by omega, ?_⟩
  simp at h1
  exact h1
theorem hasInv_invF {a m : Int} (hm : 0 < m) : HasInv a m ↔ (invF a m).isSome = true := by
  constructor
  · rintro ⟨x, h1, h2, h3⟩
    rw [Option.isSome_iff_ne_none]
    intro hn
    have := List.find?_eq_none.1 hn x.toNat (List.mem_range.2 (by omega))
    rw [Int.toNat_of_nonneg h1] at this
    simp at this
    exact this h3
  · intro h
    obtain ⟨x, hx⟩ := Option.isSome_iff_exists.1 h
    obtain ⟨h1, h2⟩ := invF_some hx
    exact ⟨x, by omega, h1, h2⟩
theorem invI_invF {a m : Int} (hm : 0 < m) : invI a m = ((invF a m).getD 0 : Nat) := by
  cases h : invF a m with
  | none =>
    have : ¬ HasInv a m := by rw [hasInv_invF hm, h]; simp
    simp [invI, this]
  | some x =>
    obtain ⟨h1, h2⟩ := invF_some h
    exact invI_eq (by omega) h1 h2
def wErrC (q : Int) (xs : List Int) (at_ : Int) : Int := if unlikeI xs q = 0 then (if (List.range xs.length).all fun i => (invF (underI q xs at_ i) q).isSome then 0 else 5) else unlikeI xs q
theorem wErr_eq (q : Int) (xs : List Int) (at_ : Int) : wErr q xs at_ = wErrC q xs at_ := by
  unfold wErr wErrC
  split
  · rename_i h
    have hm := (unlikeI_zero h).1
    simp [mayB] at hm
    have : (∀ i, i < xs.length → HasInv (underI q xs at_ i) q) ↔ ((List.range xs.length).all fun i => (invF (underI q xs at_ i) q).isSome) = true := by
      rw [List.all_eq_true]
      exact ⟨fun h i hi => (hasInv_invF hm.1).1 (h i (List.mem_range.1 hi)), fun h i hi => (hasInv_invF hm.1).2 (h i (List.mem_range.2 hi))⟩
    simp only [this]
  · rfl
def wListC (q : Int) (xs : List Int) (at_ : Int) : List Int := if wErrC q xs at_ = 0 then (List.range xs.length).map fun i => mulI ((invF (underI q xs at_ i) q).getD 0 : Nat) (overI q xs at_ i) q else []
theorem wList_eq (q : Int) (xs : List Int) (at_ : Int) : wList q xs at_ = wListC q xs at_ := by
  unfold wList wListC
  rw [wErr_eq]
  split
  · rename_i h
    have hu : unlikeI xs q = 0 := Classical.byContradiction fun hn => by
      unfold wErrC at h
      rw [if_neg hn] at h
      exact hn h
    have hm := (unlikeI_zero hu).1
    simp [mayB] at hm
    refine List.map_congr_left fun i _ => ?_
    rw [wAt, invI_invF hm.1]
  · rfl
def sumEC (p : Par) (at_ : List Int) (l : List (List (Int × Int))) : Int := if smallB p && membersB at_ && at_.length == l.length && !l.any (fun x => oddB p x) then wErrC p.Q at_ 0 else 1
def sumLC (p : Par) (at_ : List Int) (l : List (List (Int × Int))) : List (Int × Int) := if sumEC p at_ l = 0 then (List.range (secretsI p).toNat).map fun s => comeP p.Q (l.map fun x => x[s]?.getD (0, 0)) (wListC p.Q at_ 0) (0, 0) else []
theorem sumE_eq (p : Par) (at_ : List Int) (l : List (List (Int × Int))) : sumE p at_ l = sumEC p at_ l := by unfold sumE sumEC; rw [wErr_eq]
theorem sumL_eq (p : Par) (at_ : List Int) (l : List (List (Int × Int))) : sumL p at_ l = sumLC p at_ l := by unfold sumL sumLC; rw [sumE_eq, wList_eq]
abbrev ps : Par := ⟨23, 11, 4, 9, 4, 4, 1, 1, 1, 1, 1, 1⟩
theorem ps_ok : ps.ok := ⟨⟨by decide, by decide⟩, ⟨by decide, by decide⟩, ⟨by decide, by decide⟩, ⟨by decide, by decide⟩, ⟨by decide, by decide⟩, ⟨by decide, by decide⟩, ⟨by decide, by decide⟩, ⟨by decide, by decide⟩, ⟨by decide, by decide⟩, ⟨by decide, by decide⟩, ⟨by decide, by decide⟩, ⟨by decide, by decide⟩⟩
end Go.Proofs.YtlhjbllfcbojmaaDoor

namespace Go.Proofs.YtlhjbllfcbojmaaDoor
open Go.RowKit

theorem hasInv_of {a m x : Int} (hm : 0 < m) (h : Cg m (a * x) 1) : HasInv a m :=
  ⟨x % m, Int.emod_nonneg _ (by omega), Int.emod_lt_of_pos _ hm, ((Cg.mod m x).mul_left a).trans h⟩
theorem hasInv_cg {a b m : Int} (h : HasInv a m) (k : Cg m b a) : HasInv b m := by
  obtain ⟨x, h0, h1, hx⟩ := h
  exact ⟨x, h0, h1, (k.mul_right x).trans hx⟩
theorem hasInv_mul {a b m : Int} (hm : 0 < m) (h : HasInv a m) (k : HasInv b m) : HasInv (a * b) m := by
  obtain ⟨x, _, _, hx⟩ := h
  obtain ⟨y, _, _, hy⟩ := k
  refine hasInv_of hm (x := x * y) ((Cg.of_eq ?_).trans (hx.mul hy))
  rw [Int.mul_assoc, Int.mul_assoc, ← Int.mul_assoc b, Int.mul_comm b x, Int.mul_assoc]
theorem hasInv_neg {a m : Int} (hm : 0 < m) (h : HasInv a m) : HasInv (-a) m := by
  obtain ⟨x, _, _, hx⟩ := h
  exact hasInv_of hm (x := -x) ((Cg.of_eq (Int.neg_mul_neg a x)).trans hx)
theorem hasInv_lin {a q k x : Int} (hq : 0 < q) (h : a * x = k * q + 1) : HasInv a q := hasInv_of hq (x := x) (Cg.of_dvd ⟨k, by rw [h, Int.mul_comm]; omega⟩)
theorem hasInv_two {q : Int} (hq : 0 < q) (h : q % 2 ≠ 0) : HasInv 2 q := hasInv_lin hq (k := 1) (x := (q + 1) / 2) (by omega)
theorem hasInv_three {q : Int} (hq : 0 < q) (h : q % 3 ≠ 0) : HasInv 3 q := by
  have h3 : q % 3 = 1 ∨ q % 3 = 2 := by omega
  rcases h3 with h3 | h3
  · exact hasInv_lin hq (k := 2) (x := (2 * q + 1) / 3) (by omega)
  · exact hasInv_lin hq (k := 1) (x := (q + 1) / 3) (by omega)
theorem hasInv_five {q : Int} (hq : 0 < q) (h : q % 5 ≠ 0) : HasInv 5 q := by
  have h5 : q % 5 = 1 ∨ q % 5 = 2 ∨ q % 5 = 3 ∨ q % 5 = 4 := by omega
  rcases h5 with h5 | h5 | h5 | h5
  · exact hasInv_lin hq (k := 4) (x := (4 * q + 1) / 5) (by omega)
  · exact hasInv_lin hq (k := 2) (x := (2 * q + 1) / 5) (by omega)
  · exact hasInv_lin hq (k := 3) (x := (3 * q + 1) / 5) (by omega)
  · exact hasInv_lin hq (k := 1) (x := (q + 1) / 5) (by omega)
/-- Numbers from 1 to below n have inverses. -/
def Apart (q : Int) (n : Int) : Prop := ∀ d, 1 ≤ d → d < n → HasInv d q
theorem prime_small {q : Int} (h : primeB q = true) : (q % 2 = 0 → q = 2) ∧ (q % 3 = 0 → q = 3 ∨ q % 2 = 0) ∧ (q % 5 = 0 → q = 5 ∨ q % 2 = 0 ∨ q % 3 = 0) := by
  unfold primeB at h
  split at h
  · cases h
  · unfold triedL at h
    refine ⟨fun h2 => ?_, fun h3 => ?_, fun h5 => ?_⟩
    · simp only [goB, h2, if_true] at h
      simpa using h
    · by_cases h2 : q % 2 = 0
      · exact .inr h2
      · simp only [goB, h2, if_false, h3, if_true] at h
        left
        split at h
        · simpa using h
        · cases h
    · by_cases h2 : q % 2 = 0
      · exact .inr (.inl h2)
      · by_cases h3 : q % 3 = 0
        · exact .inr (.inr h3)
        · simp only [goB, h2, if_false, h3, h5, if_true] at h
          left
          split at h
          · split at h
            · simpa using h
            · cases h
          · cases h
theorem may_apart {p : Par} (h : mayP p = true) : mayB p.Q = true ∧ mayB p.P = true ∧ Apart p.Q p.N ∧ 4 ≤ p.N ∧ p.N ≤ 7 ∧ p.N < p.Q ∧ 1 ≤ p.T ∧ p.T ≤ 2 ∧ 3 * p.T + 1 ≤ p.N ∧ smallB p = true ∧ 1 ≤ p.K ∧ 1 ≤ p.D := by
  simp only [mayP, m1, m2, m3, m5, m9, Bool.and_eq_true, withinB_iff, decide_eq_true_eq] at h
  obtain ⟨⟨⟨⟨⟨⟨⟨⟨⟨a1, a2⟩, a3⟩, _⟩, a5⟩, _⟩, _⟩, _⟩, a9⟩, _⟩ := h
  obtain ⟨⟨⟨p1, p2⟩, q1⟩, pq⟩ := a1
  obtain ⟨t1, t2⟩ := a2
  obtain ⟨⟨n1, n2⟩, n3⟩ := a3
  obtain ⟨⟨k1, k2⟩, d1, d2⟩ := a5
  obtain ⟨hq, hp⟩ := a9
  have hQ : p.Q ≤ 2305843009213693952 := by
    unfold primeB at hq
    split at hq
    · cases hq
    · omega
  obtain ⟨s2, s3, s5⟩ := prime_small hq
  have hq0 : 0 < p.Q := by omega
  have i2 : HasInv 2 p.Q := hasInv_two hq0 fun e => by have := s2 e; omega
  have i3 : HasInv 3 p.Q := hasInv_three hq0 fun e => by
    rcases s3 e with e | e
    · omega
    · have := s2 e; omega
  have i1 : HasInv 1 p.Q := hasInv_lin hq0 (k := 0) (x := 1) (by omega)
  refine ⟨by simp [mayB]; omega, by simp [mayB]; omega, fun d e1 e2 => ?_, by omega, n2, n3, t1, t2, n1, by simp [smallB]; omega, k1, d1⟩
  have hd : d = 1 ∨ d = 2 ∨ d = 3 ∨ d = 4 ∨ d = 5 ∨ d = 6 := by omega
  rcases hd with rfl | rfl | rfl | rfl | rfl | rfl
  · exact i1
  · exact i2
  · exact i3
  · exact hasInv_mul hq0 i2 i2
  · refine hasInv_five hq0 fun e => ?_
    rcases s5 e with e | e | e
    · omega
    · have := s2 e; omega
    · rcases s3 e with e | e
      · omega
      · have := s2 e; omega
  · exact hasInv_mul hq0 i2 i3
def prodZ (l : List Int) : Int := l.foldr (· * ·) 1
theorem foldl_mul_cg (q : Int) (hq : mayB q = true) : ∀ (l : List Int) (s : Int), Cg q (l.foldl (fun s y => mulI s y q) s) (s * prodZ l)
  | [], s => Cg.of_eq (Int.mul_one s).symm
  | y :: l, s => by
    refine (foldl_mul_cg q hq l (mulI s y q)).trans ?_
    show Cg q _ (s * (y * prodZ l))
    rw [← Int.mul_assoc]
    refine Cg.mul_right ?_ _
    rw [mulI_yes _ _ _ hq]
    exact Cg.mod _ _
theorem foldl_mul_bd (q : Int) (hq : mayB q = true) : ∀ (l : List Int) (s : Int), 0 ≤ s → s < q → 0 ≤ l.foldl (fun s y => mulI s y q) s ∧ l.foldl (fun s y => mulI s y q) s < q
  | [], _, h1, h2 => ⟨h1, h2⟩
  | y :: l, s, _, _ => foldl_mul_bd q hq l _ (mulI_bd s y q hq).1 (mulI_bd s y q hq).2
theorem mayB_pos {q : Int} (hq : mayB q = true) : 0 < q := by simp [mayB] at hq; exact hq.1
theorem prodI_eq (q : Int) (hq : mayB q = true) (l : List Int) : prodI q l = prodZ l % q := by
  have h0 := mayB_pos hq
  have h1 := foldl_mul_cg q hq l (1 % q)
  have h2 := foldl_mul_bd q hq l (1 % q) (Int.emod_nonneg _ (by omega)) (Int.emod_lt_of_pos _ h0)
  have h3 : Cg q (prodI q l) (prodZ l) := h1.trans (((Cg.mod q 1).mul_right _).trans (Cg.of_eq (Int.one_mul _)))
  unfold Cg at h3
  rw [← h3]
  exact (Int.emod_eq_of_lt h2.1 h2.2).symm
theorem hasInv_prod {q : Int} (hq : 0 < q) : ∀ (l : List Int), (∀ x ∈ l, HasInv x q) → HasInv (prodZ l) q
  | [], _ => hasInv_lin hq (k := 0) (x := 1) (by show (1 : Int) * 1 = _; omega)
  | x :: l, h => hasInv_mul hq (h x (by simp)) (hasInv_prod hq l fun y hy => h y (by simp [hy]))
theorem subI_cg (x y q : Int) (hq : mayB q = true) : Cg q (subI x y q) (x - y) := by
  rw [subI_yes _ _ _ hq]
  exact Cg.mod _ _
theorem seenL_nodup : ∀ (l : List Int), l.Nodup → seenL l = l := by
  intro l
  have key : ∀ (n : Nat) (l : List Int), l.length = n → l.Nodup → seenL l = l := by
    intro n
    induction n with
    | zero => intro l h _; rw [List.eq_nil_of_length_eq_zero h]; rfl
    | succ n ih =>
      intro l h hn
      rcases List.eq_nil_or_concat l with rfl | ⟨l', x, rfl⟩
      · simp at h
      · rw [List.concat_eq_append] at h hn ⊢
        have hl : l'.length = n := by simpa using h
        obtain ⟨h1, _, h3⟩ := List.nodup_append.1 hn
        rw [seenL_snoc, ih l' hl h1]
        have : l'.contains x = false := by
          rw [Bool.eq_false_iff]
          intro hc
          exact h3 x (List.contains_iff_mem.1 hc) x (by simp) rfl
        rw [this]
        rfl
  exact key l.length l rfl
end Go.Proofs.YtlhjbllfcbojmaaDoor
