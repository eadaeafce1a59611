/- consistoryref30.Power, walked (printed by mk_refp.py and mkt.py). consistoryref30.Look, walked (printed from ExtF's text and by mkt.py). 'a, b, .. := f(..)' in a drawn region, a and b structs in memory: two blocks made and written in whatever order. Params and pairs that came in by value. What comes in, with the bounds that the rows lay on every slice. Members' shares that come in, within the bounds. Draws alone leave the memory as it was; the table of bits as it is listed. What law30's closed statement reckons: sums, powers of the lie, where shares are off, by the kernel. consistorylaw30.works and ExtractNames, walked: closed (printed by mkt.py). -/
import Derived.Test.YtlhjbllfcbojmaaDoorZ6
import Derived.ProofKit
namespace Go.Proofs.YtlhjbllfcbojmaaDoor
open Go Go.RowKit Go.Shelf

/-- The document's inverse, whatever the modulus is. -/
theorem r01inv (a m : Int) (ha : U64 a) (hm : U64 m) : ∃ iv ie : Int, (∀ w, Calls Tryd.prog 23 #[.int .u64 a, .int .u64 m] w fun e w' => e = .returned (.tuple #[.int .u64 iv, .int .i64 ie]) ∧ w.grownBy w' none) ∧ U64 iv ∧ (ie = 0 ↔ mayB m = true ∧ HasInv a m) ∧ (ie = 0 → iv = invI a m) := by
  cases hb : mayB m with
  | true =>
    by_cases hi : HasInv a m
    · refine ⟨invI a m, 0, fun w => (refinv_may a m w ha hb).mono ?_, invI_U64' hb hi, ⟨fun _ => ⟨rfl, hi⟩, fun _ => rfl⟩, fun _ => rfl⟩
      rintro e w' ⟨he, n, rfl⟩
      exact ⟨by rw [he]; unfold invRes; rw [if_pos hi], grown_drewN' w n⟩
    · refine ⟨0, 5, fun w => (refinv_may a m w ha hb).mono ?_, ⟨by decide, by decide⟩, ⟨fun h => absurd h (by decide), fun h => absurd h.2 hi⟩, fun h => absurd h (by decide)⟩
      rintro e w' ⟨he, n, rfl⟩
      exact ⟨by rw [he]; unfold invRes; rw [if_neg hi], grown_drewN' w n⟩
  | false =>
    refine ⟨0, 1, fun w => (refinv_arg a m w hm hb).mono ?_, ⟨by decide, by decide⟩, ⟨fun h => absurd h (by decide), fun h => absurd h.1 (by decide)⟩, fun h => absurd h (by decide)⟩
    rintro e w' ⟨he, n, rfl⟩
    exact ⟨he, grown_drewN' w n⟩
theorem mul_one_sub {a b q : Int} (hq : mayB q = true) : mulI a 1 q = mulI b 1 q ↔ subI a b q = 0 := by
  rw [subI_zero hq]
  unfold mulI
  rw [if_pos hq, if_pos hq, ← Int.mul_emod, ← Int.mul_emod, Int.mul_one, Int.mul_one]
set_option maxRecDepth 100000 in
set_option maxHeartbeats 1000000 in
theorem r30power_any (p : Par) (x y : Int × Int) (w : World) (hp : p.ok) (hx : U64 x.1 ∧ U64 x.2) (hy : U64 y.1 ∧ U64 y.2) :
    Calls Tryd.prog 7 #[p.v, .agg #[.int .u64 x.1, .int .u64 x.2], .agg #[.int .u64 y.1, .int .u64 y.2]] w fun e w' => e = .returned (.tuple #[.int .u64 (xpow p x y).1, .bool (xpow p x y).2]) ∧ w.grownBy w' none := by
  obtain ⟨W, hW⟩ : ∃ W, W = ((w.alloc (.cells p.cells 24)).alloc (.cells #[.int .u64 x.1, .int .u64 x.2] 26)).alloc (.cells #[.int .u64 y.1, .int .u64 y.2] 26) := ⟨_, rfl⟩
  have HP : Hid (Bk W w.heap.size 24 p.cells) := Lib.hid (by rw [hW]; exact ((Bk.new w _ _).alloc _).alloc _)
  have HX : Hid (Bk W (w.heap.size + 1) 26 #[.int .u64 x.1, .int .u64 x.2]) := Lib.hid (by
    rw [hW]
    have h := (Bk.new (w.alloc (.cells p.cells 24)) 26 #[.int .u64 x.1, .int .u64 x.2]).alloc (.cells #[.int .u64 y.1, .int .u64 y.2] 26)
    rw [World.size_alloc] at h
    exact h)
  have HY : Hid (Bk W (w.heap.size + 1 + 1) 26 #[.int .u64 y.1, .int .u64 y.2]) := Lib.hid (by
    rw [hW]
    have h := Bk.new ((w.alloc (.cells p.cells 24)).alloc (.cells #[.int .u64 x.1, .int .u64 x.2] 26)) 26 #[.int .u64 y.1, .int .u64 y.2]
    rw [World.size_alloc, World.size_alloc] at h
    exact h)
  have HG : Hid (w.grownBy W.drew none) := Lib.hid (by rw [hW]; exact ((World.grownBy_alloc _ _ none).trans ((World.grownBy_alloc _ _ none).trans (World.grownBy_alloc _ _ none))).trans (grown_drewN' _ 1))
  have HDR : Hid (W.grownBy W.drew none) := Lib.hid (grown_drewN' W 1)
  have HU := Lib.hid (And.intro hp (And.intro hx hy))
  clear hx hy hp
  obtain ⟨cx, hcx⟩ : ∃ z, z = commitI p x := ⟨_, rfl⟩
  obtain ⟨cy, hcy⟩ : ∃ z, z = commitI p y := ⟨_, rfl⟩
  have HCX := Lib.hid hcx
  have HCY := Lib.hid hcy
  clear hcx hcy
  have HLD : Hid (∀ V, W.drew.grownBy V none → (∀ o, V.cell? ⟨w.heap.size, o, none⟩ = (#[.int .u64 p.P, .int .u64 p.Q, .int .u64 p.G, .int .u64 p.H, .int .i64 p.Nodes, .int .i64 p.N, .int .i64 p.T, .int .i64 p.K, .int .i64 p.D, .int .i64 p.R, .int .i64 p.M, .int .i64 p.X] : Array Value)[o]?) ∧ V.cell? ⟨w.heap.size + 1, 0, none⟩ = some (.int .u64 x.1) ∧ V.cell? ⟨w.heap.size + 1, 1, none⟩ = some (.int .u64 x.2) ∧ V.cell? ⟨w.heap.size + 1 + 1, 0, none⟩ = some (.int .u64 y.1) ∧ V.cell? ⟨w.heap.size + 1 + 1, 1, none⟩ = some (.int .u64 y.2)) := Lib.hid (fun V hV => ⟨(HP.out.grown (HDR.out.trans hV) (by simp)).prule, (HX.out.grown (HDR.out.trans hV) (by simp)).cell 0, (HX.out.grown (HDR.out.trans hV) (by simp)).cell 1, (HY.out.grown (HDR.out.trans hV) (by simp)).cell 0, (HY.out.grown (HDR.out.trans hV) (by simp)).cell 1⟩)
  obtain ⟨rs, hrs⟩ : ∃ z, z = xpow p x y := ⟨_, rfl⟩
  have HRS := Lib.hid hrs
  rw [← hrs]
  clear hrs
  obtain ⟨B, hB⟩ : ∃ z, z = (cx != cy) := ⟨_, rfl⟩
  have HB := Lib.hid hB
  clear hB
  go_enter Tryd.func7, Tryd.ntmps7
  go_wp2_with fail
  rw [← hW]
  clear hW
  refine wp_region_mono 7 (by kernel_rfl) (by kernel_rfl) ?_
  -- op 0 (slot 10): load
  refine MonoR.step (Pv.eq (p.v)) [] (by kernel_rfl) (fun w' hw' => ?_) ?_
  · refine ask_do rfl fun K hK => ?_
    have qq := HLD.out w' (hw')
    have q0 := qq.1
    have q1 := qq.2.1
    have q2 := qq.2.2.1
    have q3 := qq.2.2.2.1
    have q4 := qq.2.2.2.2
    clear qq
    go_simp
    exact hK _ _ rfl rfl (World.grownBy.refl _ none)
  -- op 1 (slot 11): load
  refine MonoR.step (Pv.eq (.agg #[.int .u64 x.1, .int .u64 x.2])) [] (by kernel_rfl) (fun w' hw' => ?_) ?_
  · refine ask_do rfl fun K hK => ?_
    have qq := HLD.out w' (hw')
    have q0 := qq.1
    have q1 := qq.2.1
    have q2 := qq.2.2.1
    have q3 := qq.2.2.2.1
    have q4 := qq.2.2.2.2
    clear qq
    go_simp
    exact hK _ _ rfl rfl (World.grownBy.refl _ none)
  -- op 2 (slot 12): call
  refine MonoR.step (Pv.eq (.int .u64 cx)) [(0, 10), (1, 11)] (by kernel_rfl) (fun w' hw' => ?_) ?_
  · intro x10 h10
    intro x11 h11
    have e10 : x10 = p.v := h10
    clear h10
    subst e10
    have e11 : x11 = .agg #[.int .u64 x.1, .int .u64 x.2] := h11
    clear h11
    subst e11
    refine ask_do rfl fun K hK => ?_
    go_simp
    have hh := rcommit_any p x w' HU.out.1 HU.out.2.1.1 HU.out.2.1.2
    rw [← HCX.out] at hh
    refine hh.mono ?_
    rintro e w3 ⟨rfl, hg⟩
    exact hK _ _ rfl rfl hg
  -- op 3 (slot 13): load
  refine MonoR.step (Pv.eq (p.v)) [] (by kernel_rfl) (fun w' hw' => ?_) ?_
  · refine ask_do rfl fun K hK => ?_
    have qq := HLD.out w' (hw')
    have q0 := qq.1
    have q1 := qq.2.1
    have q2 := qq.2.2.1
    have q3 := qq.2.2.2.1
    have q4 := qq.2.2.2.2
    clear qq
    go_simp
    exact hK _ _ rfl rfl (World.grownBy.refl _ none)
  -- op 4 (slot 14): load
  refine MonoR.step (Pv.eq (.agg #[.int .u64 y.1, .int .u64 y.2])) [] (by kernel_rfl) (fun w' hw' => ?_) ?_
  · refine ask_do rfl fun K hK => ?_
    have qq := HLD.out w' (hw')
    have q0 := qq.1
    have q1 := qq.2.1
    have q2 := qq.2.2.1
    have q3 := qq.2.2.2.1
    have q4 := qq.2.2.2.2
    clear qq
    go_simp
    exact hK _ _ rfl rfl (World.grownBy.refl _ none)
  -- op 5 (slot 15): call
  refine MonoR.step (Pv.eq (.int .u64 cy)) [(3, 13), (4, 14)] (by kernel_rfl) (fun w' hw' => ?_) ?_
  · intro x13 h13
    intro x14 h14
    have e13 : x13 = p.v := h13
    clear h13
    subst e13
    have e14 : x14 = .agg #[.int .u64 y.1, .int .u64 y.2] := h14
    clear h14
    subst e14
    refine ask_do rfl fun K hK => ?_
    go_simp
    have hh := rcommit_any p y w' HU.out.1 HU.out.2.2.1 HU.out.2.2.2
    rw [← HCY.out] at hh
    refine hh.mono ?_
    rintro e w3 ⟨rfl, hg⟩
    exact hK _ _ rfl rfl hg
  -- op 6 (slot 16): binOp
  refine MonoR.step (Pv.eq (.bool B)) [(2, 12), (5, 15)] (by kernel_rfl) (fun w' hw' => ?_) ?_
  · intro x12 h12
    intro x15 h15
    have e12 : x12 = .int .u64 cx := h12
    clear h12
    subst e12
    have e15 : x15 = .int .u64 cy := h15
    clear h15
    subst e15
    refine ask_do rfl fun K hK => ?_
    go_simp
    exact hK _ _ rfl (by show Value.bool _ = Value.bool _; rw [HB.out]) (World.grownBy.refl _ none)
  
  intro w3 hw3
  intro y0 e0 y1 e1 y2 e2 y3 e3 y4 e4 y5 e5 y6 e6
  have e6 : y6 = .bool B := e6
  subst e6
  have HW3 := Lib.hid hw3
  clear e0 e1 e2 e3 e4 e5 hw3
  simp only [Act.put, List.setIfInBounds_toArray, List.set_cons_zero, List.set_cons_succ]
  refine wpList_nil ?_
  cases B with
  | true =>
    have HV : Hid (xpow p x y = (0, false)) := Lib.hid (by
      have hc : cx ≠ cy := by simpa using HB.out.symm
      unfold xpow
      rw [if_neg (fun h => hc (by rw [HCX.out, HCY.out]; exact h.1))])
    have HF : Hid (w.grownBy w3 none) := Lib.hid (HG.out.trans HW3.out)
    go_wp2
    go_ret2
    exact ⟨by rw [HRS.out, HV.out]; rfl, HF.out⟩
  | false =>
    have HCC : Hid (commitI p x = commitI p y) := Lib.hid (by
      have hc : cx = cy := by simpa using HB.out.symm
      rw [← HCX.out, ← HCY.out]
      exact hc)
    obtain ⟨d, hdd⟩ : ∃ z, z = subI y.2 x.2 p.Q := ⟨_, rfl⟩
    have HD : Hid (U64 d) := Lib.hid (by rw [hdd]; exact subI_U64 _ _ _)
    have HDD := Lib.hid hdd
    obtain ⟨iv, ie, hiv, hivu, hie, hive⟩ := r01inv d p.Q HD.out HU.out.1.Q
    have HIV := Lib.hid hiv
    have HIU := Lib.hid hivu
    have HIE := Lib.hid (And.intro hie hive)
    clear hdd hiv hivu hie hive
    go_upto_region 3 with (fail)
    have HG3 : Hid (w.grownBy w3.drew none) := Lib.hid (HG.out.trans (HW3.out.trans (grown_drewN' w3 1)))
    have HW3d : Hid (W.drew.grownBy w3.drew none) := Lib.hid (HW3.out.trans (grown_drewN' w3 1))
    refine wp_region_mono 15 (by kernel_rfl) (by kernel_rfl) ?_
    -- op 0 (slot 18): fieldAddr
    refine MonoR.step (Pv.eq (.pointer (some ⟨w.heap.size + 1 + 1, 1, none⟩))) [] (by kernel_rfl) (fun w' hw' => ?_) ?_
    · refine ask_do rfl fun K hK => ?_
      go_simp
      exact hK _ _ rfl rfl (World.grownBy.refl _ none)
    -- op 1 (slot 19): load
    refine MonoR.step (Pv.eq (.int .u64 y.2)) [(0, 18)] (by kernel_rfl) (fun w' hw' => ?_) ?_
    · intro x18 h18
      have e18 : x18 = .pointer (some ⟨w.heap.size + 1 + 1, 1, none⟩) := h18
      clear h18
      subst e18
      refine ask_do rfl fun K hK => ?_
      have qq := HLD.out w' (HW3d.out.trans hw')
      have q0 := qq.1
      have q1 := qq.2.1
      have q2 := qq.2.2.1
      have q3 := qq.2.2.2.1
      have q4 := qq.2.2.2.2
      clear qq
      go_simp
      exact hK _ _ rfl rfl (World.grownBy.refl _ none)
    -- op 2 (slot 20): fieldAddr
    refine MonoR.step (Pv.eq (.pointer (some ⟨w.heap.size + 1, 1, none⟩))) [] (by kernel_rfl) (fun w' hw' => ?_) ?_
    · refine ask_do rfl fun K hK => ?_
      go_simp
      exact hK _ _ rfl rfl (World.grownBy.refl _ none)
    -- op 3 (slot 21): load
    refine MonoR.step (Pv.eq (.int .u64 x.2)) [(2, 20)] (by kernel_rfl) (fun w' hw' => ?_) ?_
    · intro x20 h20
      have e20 : x20 = .pointer (some ⟨w.heap.size + 1, 1, none⟩) := h20
      clear h20
      subst e20
      refine ask_do rfl fun K hK => ?_
      have qq := HLD.out w' (HW3d.out.trans hw')
      have q0 := qq.1
      have q1 := qq.2.1
      have q2 := qq.2.2.1
      have q3 := qq.2.2.2.1
      have q4 := qq.2.2.2.2
      clear qq
      go_simp
      exact hK _ _ rfl rfl (World.grownBy.refl _ none)
    -- op 4 (slot 22): fieldAddr
    refine MonoR.step (Pv.eq (.pointer (some ⟨w.heap.size, 1, none⟩))) [] (by kernel_rfl) (fun w' hw' => ?_) ?_
    · refine ask_do rfl fun K hK => ?_
      go_simp
      exact hK _ _ rfl rfl (World.grownBy.refl _ none)
    -- op 5 (slot 23): load
    refine MonoR.step (Pv.eq (.int .u64 p.Q)) [(4, 22)] (by kernel_rfl) (fun w' hw' => ?_) ?_
    · intro x22 h22
      have e22 : x22 = .pointer (some ⟨w.heap.size, 1, none⟩) := h22
      clear h22
      subst e22
      refine ask_do rfl fun K hK => ?_
      have qq := HLD.out w' (HW3d.out.trans hw')
      have q0 := qq.1
      have q1 := qq.2.1
      have q2 := qq.2.2.1
      have q3 := qq.2.2.2.1
      have q4 := qq.2.2.2.2
      clear qq
      go_simp
      exact hK _ _ rfl rfl (World.grownBy.refl _ none)
    -- op 6 (slot 24): call
    refine MonoR.step (Pv.eq (.int .u64 d)) [(1, 19), (3, 21), (5, 23)] (by kernel_rfl) (fun w' hw' => ?_) ?_
    · intro x19 h19
      intro x21 h21
      intro x23 h23
      have e19 : x19 = .int .u64 y.2 := h19
      clear h19
      subst e19
      have e21 : x21 = .int .u64 x.2 := h21
      clear h21
      subst e21
      have e23 : x23 = .int .u64 p.Q := h23
      clear h23
      subst e23
      refine ask_do rfl fun K hK => ?_
      go_simp
      have hh := refsub_any y.2 x.2 p.Q w' HU.out.2.2.2 HU.out.2.1.2 HU.out.1.Q
      rw [← HDD.out] at hh
      refine hh.mono ?_
      rintro e w4 ⟨rfl, m4, rfl⟩
      exact hK _ _ rfl rfl (grown_drewN' w' m4)
    -- op 7 (slot 25): fieldAddr
    refine MonoR.step (Pv.eq (.pointer (some ⟨w.heap.size, 1, none⟩))) [] (by kernel_rfl) (fun w' hw' => ?_) ?_
    · refine ask_do rfl fun K hK => ?_
      go_simp
      exact hK _ _ rfl rfl (World.grownBy.refl _ none)
    -- op 8 (slot 26): load
    refine MonoR.step (Pv.eq (.int .u64 p.Q)) [(7, 25)] (by kernel_rfl) (fun w' hw' => ?_) ?_
    · intro x25 h25
      have e25 : x25 = .pointer (some ⟨w.heap.size, 1, none⟩) := h25
      clear h25
      subst e25
      refine ask_do rfl fun K hK => ?_
      have qq := HLD.out w' (HW3d.out.trans hw')
      have q0 := qq.1
      have q1 := qq.2.1
      have q2 := qq.2.2.1
      have q3 := qq.2.2.2.1
      have q4 := qq.2.2.2.2
      clear qq
      go_simp
      exact hK _ _ rfl rfl (World.grownBy.refl _ none)
    -- op 9 (slot 27): call
    refine MonoR.step (Pv.eq (.tuple #[.int .u64 iv, .int .i64 ie])) [(6, 24), (8, 26)] (by kernel_rfl) (fun w' hw' => ?_) ?_
    · intro x24 h24
      intro x26 h26
      have e24 : x24 = .int .u64 d := h24
      clear h24
      subst e24
      have e26 : x26 = .int .u64 p.Q := h26
      clear h26
      subst e26
      refine ask_do rfl fun K hK => ?_
      go_simp
      refine (HIV.out w').mono ?_
      rintro e w4 ⟨rfl, hg⟩
      exact hK _ _ rfl rfl hg
    -- op 10 (slot 17): move
    refine MonoR.step (Pv.eq (.tuple #[.int .u64 iv, .int .i64 ie])) [(9, 27)] (by kernel_rfl) (fun w' hw' => ?_) ?_
    · intro x27 h27
      have e27 : x27 = .tuple #[.int .u64 iv, .int .i64 ie] := h27
      clear h27
      subst e27
      refine ask_do rfl fun K hK => ?_
      go_simp
      exact hK _ _ rfl rfl (World.grownBy.refl _ none)
    -- op 11 (slot 28): extract
    refine MonoR.step (Pv.eq (.int .u64 iv)) [(10, 17)] (by kernel_rfl) (fun w' hw' => ?_) ?_
    · intro x17 h17
      have e17 : x17 = .tuple #[.int .u64 iv, .int .i64 ie] := h17
      clear h17
      subst e17
      refine ask_do rfl fun K hK => ?_
      go_simp
      exact hK _ _ rfl rfl (World.grownBy.refl _ none)
    -- op 12 (slot 29): extract
    refine MonoR.step (Pv.eq (.int .i64 ie)) [(10, 17)] (by kernel_rfl) (fun w' hw' => ?_) ?_
    · intro x17 h17
      have e17 : x17 = .tuple #[.int .u64 iv, .int .i64 ie] := h17
      clear h17
      subst e17
      refine ask_do rfl fun K hK => ?_
      go_simp
      exact hK _ _ rfl rfl (World.grownBy.refl _ none)
    -- op 13 (slot 8): assign
    refine MonoR.step (Pv.eq (.int .u64 iv)) [(11, 28)] (by kernel_rfl) (fun w' hw' => ?_) ?_
    · intro x28 h28
      have e28 : x28 = .int .u64 iv := h28
      clear h28
      subst e28
      refine ask_do rfl fun K hK => ?_
      go_simp
      exact hK _ _ rfl rfl (World.grownBy.refl _ none)
    -- op 14 (slot 9): assign
    refine MonoR.step (Pv.eq (.int .i64 ie)) [(12, 29)] (by kernel_rfl) (fun w' hw' => ?_) ?_
    · intro x29 h29
      have e29 : x29 = .int .i64 ie := h29
      clear h29
      subst e29
      refine ask_do rfl fun K hK => ?_
      go_simp
      exact hK _ _ rfl rfl (World.grownBy.refl _ none)
    
    intro w5 hw5
    intro y0 e0 y1 e1 y2 e2 y3 e3 y4 e4 y5 e5 y6 e6 y7 e7 y8 e8 y9 e9 y10 e10 y11 e11 y12 e12 y13 e13 y14 e14
    have e13 : y13 = .int .u64 iv := e13
    have e14 : y14 = .int .i64 ie := e14
    subst e13 e14
    have HW5 := Lib.hid hw5
    clear e0 e1 e2 e3 e4 e5 e6 e7 e8 e9 e10 e11 e12 hw5
    simp only [Act.put, List.setIfInBounds_toArray, List.set_cons_zero, List.set_cons_succ]
    refine wpList_nil ?_
    have HF5 : Hid (w.grownBy w5 none) := Lib.hid (HG3.out.trans HW5.out)
    by_cases h0 : ie = 0
    case neg =>
      have h0b : (ie != 0) = true := by simp [h0]
      have HV : Hid (xpow p x y = (0, false)) := Lib.hid (by
        unfold xpow
        rw [if_neg]
        rintro ⟨_, hr, hi⟩
        rw [← HDD.out] at hi
        refine h0 (HIE.out.1.2 ⟨?_, hi⟩)
        cases hb : mayB p.Q with
        | true => rfl
        | false => exact absurd (by simp [redI, mulI, hb]) hr)
      clear h0
      go_wp2
      go_ret2
      exact ⟨by rw [HRS.out, HV.out]; rfl, HF5.out⟩
    have h0b : (ie != 0) = false := by simp [h0]
    subst h0
    have HM := Lib.hid (HIE.out.1.1 rfl)
    have HVI : Hid (iv = invI d p.Q) := Lib.hid (HIE.out.2 rfl)
    have HRD : Hid (redI p x = redI p y ↔ subI x.1 y.1 p.Q = 0 ∧ subI x.2 y.2 p.Q = 0) := Lib.hid (by
      unfold redI
      rw [Prod.mk.injEq, mul_one_sub HM.out.1, mul_one_sub HM.out.1])
    obtain ⟨s1, hs1⟩ : ∃ z, z = subI x.1 y.1 p.Q := ⟨_, rfl⟩
    obtain ⟨s2, hs2⟩ : ∃ z, z = subI x.2 y.2 p.Q := ⟨_, rfl⟩
    have HS1 := Lib.hid hs1
    have HS2 := Lib.hid hs2
    rw [← hs1, ← hs2] at HRD
    have HQL := HLD.out w5 (HW3d.out.trans HW5.out)
    have q0 := HQL.1
    have q1 := HQL.2.1
    have q2 := HQL.2.2.1
    have q3 := HQL.2.2.2.1
    have q4 := HQL.2.2.2.2
    clear HQL hs1 hs2
    go_wp2_with fail
    have hh := refsub_any x.1 y.1 p.Q w5 HU.out.2.1.1 HU.out.2.2.1 HU.out.1.Q
    rw [← HS1.out] at hh
    refine hh.mono ?_
    rintro e w' ⟨rfl, m6, hm6⟩
    clear hh
    have HG6 : Hid (w5.grownBy w' none) := Lib.hid (by rw [hm6]; exact grown_drewN' w5 m6)
    clear hm6 q0 q1 q2 q3 q4
    have HQL := HLD.out w' (HW3d.out.trans (HW5.out.trans HG6.out))
    have q0 := HQL.1
    have q1 := HQL.2.1
    have q2 := HQL.2.2.1
    have q3 := HQL.2.2.2.1
    have q4 := HQL.2.2.2.2
    clear HQL
    obtain ⟨w6, hw6⟩ : ∃ z, z = w' := ⟨_, rfl⟩
    rw [← hw6] at HG6 q0 q1 q2 q3 q4 ⊢
    clear hw6
    by_cases h1 : s1 = 0
    · have h1b : (s1 == 0) = true := by simp [h1]
      have HZ1 := Lib.hid h1
      clear h1
      go_wp2_with fail
      have hh := refsub_any x.2 y.2 p.Q w6 HU.out.2.1.2 HU.out.2.2.2 HU.out.1.Q
      rw [← HS2.out] at hh
      refine hh.mono ?_
      rintro e w' ⟨rfl, m7, hm7⟩
      clear hh
      have HG7 : Hid (w6.grownBy w' none) := Lib.hid (by rw [hm7]; exact grown_drewN' w6 m7)
      clear hm7 q0 q1 q2 q3 q4
      obtain ⟨w7, hw7⟩ : ∃ z, z = w' := ⟨_, rfl⟩
      rw [← hw7] at HG7 ⊢
      clear hw7
      by_cases h2 : s2 = 0
      · have h2b : (s2 == 0) = true := by simp [h2]
        have HV : Hid (xpow p x y = (0, false)) := Lib.hid (by
          unfold xpow
          rw [if_neg (fun h => h.2.1 (HRD.out.2 ⟨HZ1.out, h2⟩))])
        have HF : Hid (w.grownBy w7 none) := Lib.hid (HF5.out.trans (HG6.out.trans HG7.out))
        clear h2
        go_wp2
        go_ret2
        exact ⟨by rw [HRS.out, HV.out]; rfl, HF.out⟩
      · have h2b : (s2 == 0) = false := by simp [h2]
        have HNR : Hid (redI p x ≠ redI p y) := Lib.hid (fun h => h2 (HRD.out.1 h).2)
        have HF7 : Hid (w5.grownBy w7 none) := Lib.hid (HG6.out.trans HG7.out)
        clear h2
        have HV : Hid (xpow p x y = (mulI s1 iv p.Q, true)) := Lib.hid (by
          unfold xpow
          rw [if_pos ⟨HCC.out, HNR.out, by rw [← HDD.out]; exact HM.out.2⟩, ← HDD.out, ← HVI.out, ← HS1.out])
        go_upto_region 6 with (fail)
        have HG9 : Hid (w.grownBy w7.drew none) := Lib.hid (HF5.out.trans (HF7.out.trans (grown_drewN' w7 1)))
        have HW9 : Hid (W.drew.grownBy w7.drew none) := Lib.hid (HW3d.out.trans (HW5.out.trans (HF7.out.trans (grown_drewN' w7 1))))
        refine wp_region_mono 13 (by kernel_rfl) (by kernel_rfl) ?_
        -- op 0 (slot 52): fieldAddr
        refine MonoR.step (Pv.eq (.pointer (some ⟨w.heap.size + 1, 0, none⟩))) [] (by kernel_rfl) (fun w' hw' => ?_) ?_
        · refine ask_do rfl fun K hK => ?_
          go_simp
          exact hK _ _ rfl rfl (World.grownBy.refl _ none)
        -- op 1 (slot 53): load
        refine MonoR.step (Pv.eq (.int .u64 x.1)) [(0, 52)] (by kernel_rfl) (fun w' hw' => ?_) ?_
        · intro x52 h52
          have e52 : x52 = .pointer (some ⟨w.heap.size + 1, 0, none⟩) := h52
          clear h52
          subst e52
          refine ask_do rfl fun K hK => ?_
          have qq := HLD.out w' (HW9.out.trans hw')
          have q0 := qq.1
          have q1 := qq.2.1
          have q2 := qq.2.2.1
          have q3 := qq.2.2.2.1
          have q4 := qq.2.2.2.2
          clear qq
          go_simp
          exact hK _ _ rfl rfl (World.grownBy.refl _ none)
        -- op 2 (slot 54): fieldAddr
        refine MonoR.step (Pv.eq (.pointer (some ⟨w.heap.size + 1 + 1, 0, none⟩))) [] (by kernel_rfl) (fun w' hw' => ?_) ?_
        · refine ask_do rfl fun K hK => ?_
          go_simp
          exact hK _ _ rfl rfl (World.grownBy.refl _ none)
        -- op 3 (slot 55): load
        refine MonoR.step (Pv.eq (.int .u64 y.1)) [(2, 54)] (by kernel_rfl) (fun w' hw' => ?_) ?_
        · intro x54 h54
          have e54 : x54 = .pointer (some ⟨w.heap.size + 1 + 1, 0, none⟩) := h54
          clear h54
          subst e54
          refine ask_do rfl fun K hK => ?_
          have qq := HLD.out w' (HW9.out.trans hw')
          have q0 := qq.1
          have q1 := qq.2.1
          have q2 := qq.2.2.1
          have q3 := qq.2.2.2.1
          have q4 := qq.2.2.2.2
          clear qq
          go_simp
          exact hK _ _ rfl rfl (World.grownBy.refl _ none)
        -- op 4 (slot 56): fieldAddr
        refine MonoR.step (Pv.eq (.pointer (some ⟨w.heap.size, 1, none⟩))) [] (by kernel_rfl) (fun w' hw' => ?_) ?_
        · refine ask_do rfl fun K hK => ?_
          go_simp
          exact hK _ _ rfl rfl (World.grownBy.refl _ none)
        -- op 5 (slot 57): load
        refine MonoR.step (Pv.eq (.int .u64 p.Q)) [(4, 56)] (by kernel_rfl) (fun w' hw' => ?_) ?_
        · intro x56 h56
          have e56 : x56 = .pointer (some ⟨w.heap.size, 1, none⟩) := h56
          clear h56
          subst e56
          refine ask_do rfl fun K hK => ?_
          have qq := HLD.out w' (HW9.out.trans hw')
          have q0 := qq.1
          have q1 := qq.2.1
          have q2 := qq.2.2.1
          have q3 := qq.2.2.2.1
          have q4 := qq.2.2.2.2
          clear qq
          go_simp
          exact hK _ _ rfl rfl (World.grownBy.refl _ none)
        -- op 6 (slot 58): call
        refine MonoR.step (Pv.eq (.int .u64 s1)) [(1, 53), (3, 55), (5, 57)] (by kernel_rfl) (fun w' hw' => ?_) ?_
        · intro x53 h53
          intro x55 h55
          intro x57 h57
          have e53 : x53 = .int .u64 x.1 := h53
          clear h53
          subst e53
          have e55 : x55 = .int .u64 y.1 := h55
          clear h55
          subst e55
          have e57 : x57 = .int .u64 p.Q := h57
          clear h57
          subst e57
          refine ask_do rfl fun K hK => ?_
          go_simp
          have hh := refsub_any x.1 y.1 p.Q w' HU.out.2.1.1 HU.out.2.2.1 HU.out.1.Q
          rw [← HS1.out] at hh
          refine hh.mono ?_
          rintro e w4 ⟨rfl, m4, rfl⟩
          exact hK _ _ rfl rfl (grown_drewN' w' m4)
        -- op 7 (slot 59): move
        refine MonoR.step (Pv.eq (.int .u64 iv)) [] (by kernel_rfl) (fun w' hw' => ?_) ?_
        · refine ask_do rfl fun K hK => ?_
          go_simp
          exact hK _ _ rfl rfl (World.grownBy.refl _ none)
        -- op 8 (slot 60): fieldAddr
        refine MonoR.step (Pv.eq (.pointer (some ⟨w.heap.size, 1, none⟩))) [] (by kernel_rfl) (fun w' hw' => ?_) ?_
        · refine ask_do rfl fun K hK => ?_
          go_simp
          exact hK _ _ rfl rfl (World.grownBy.refl _ none)
        -- op 9 (slot 61): load
        refine MonoR.step (Pv.eq (.int .u64 p.Q)) [(8, 60)] (by kernel_rfl) (fun w' hw' => ?_) ?_
        · intro x60 h60
          have e60 : x60 = .pointer (some ⟨w.heap.size, 1, none⟩) := h60
          clear h60
          subst e60
          refine ask_do rfl fun K hK => ?_
          have qq := HLD.out w' (HW9.out.trans hw')
          have q0 := qq.1
          have q1 := qq.2.1
          have q2 := qq.2.2.1
          have q3 := qq.2.2.2.1
          have q4 := qq.2.2.2.2
          clear qq
          go_simp
          exact hK _ _ rfl rfl (World.grownBy.refl _ none)
        -- op 10 (slot 62): call
        refine MonoR.step (Pv.eq (.int .u64 (mulI s1 iv p.Q))) [(6, 58), (7, 59), (9, 61)] (by kernel_rfl) (fun w' hw' => ?_) ?_
        · intro x58 h58
          intro x59 h59
          intro x61 h61
          have e58 : x58 = .int .u64 s1 := h58
          clear h58
          subst e58
          have e59 : x59 = .int .u64 iv := h59
          clear h59
          subst e59
          have e61 : x61 = .int .u64 p.Q := h61
          clear h61
          subst e61
          refine ask_do rfl fun K hK => ?_
          go_simp
          refine (refmul_any s1 iv p.Q w' (by rw [HS1.out]; exact subI_U64 _ _ _) HIU.out HU.out.1.Q).mono ?_
          rintro e w4 ⟨rfl, m4, rfl⟩
          exact hK _ _ rfl rfl (grown_drewN' w' m4)
        -- op 11 (slot 6): assign
        refine MonoR.step (Pv.eq (.int .u64 (mulI s1 iv p.Q))) [(10, 62)] (by kernel_rfl) (fun w' hw' => ?_) ?_
        · intro x62 h62
          have e62 : x62 = .int .u64 (mulI s1 iv p.Q) := h62
          clear h62
          subst e62
          refine ask_do rfl fun K hK => ?_
          go_simp
          exact hK _ _ rfl rfl (World.grownBy.refl _ none)
        -- op 12 (slot 7): assign
        refine MonoR.step (Pv.eq (.bool true)) [] (by kernel_rfl) (fun w' hw' => ?_) ?_
        · refine ask_do rfl fun K hK => ?_
          go_simp
          exact hK _ _ rfl rfl (World.grownBy.refl _ none)
        
        intro w9 hw9
        intro y0 e0 y1 e1 y2 e2 y3 e3 y4 e4 y5 e5 y6 e6 y7 e7 y8 e8 y9 e9 y10 e10 y11 e11 y12 e12
        have e11 : y11 = .int .u64 (mulI s1 iv p.Q) := e11
        have e12 : y12 = .bool true := e12
        subst e11 e12
        have HF : Hid (w.grownBy w9 none) := Lib.hid (HG9.out.trans hw9)
        clear e0 e1 e2 e3 e4 e5 e6 e7 e8 e9 e10 hw9
        simp only [Act.put, List.setIfInBounds_toArray, List.set_cons_zero, List.set_cons_succ]
        refine wpList_nil ?_
        go_wp2
        go_ret2
        exact ⟨by rw [HRS.out, HV.out]; rfl, HF.out⟩
    · have h1b : (s1 == 0) = false := by simp [h1]
      have HNR : Hid (redI p x ≠ redI p y) := Lib.hid (fun h => h1 (HRD.out.1 h).1)
      have HF7 : Hid (w5.grownBy w6 none) := Lib.hid HG6.out
      clear h1 q0 q1 q2 q3 q4
      have HV : Hid (xpow p x y = (mulI s1 iv p.Q, true)) := Lib.hid (by
        unfold xpow
        rw [if_pos ⟨HCC.out, HNR.out, by rw [← HDD.out]; exact HM.out.2⟩, ← HDD.out, ← HVI.out, ← HS1.out])
      go_upto_region 6 with (fail)
      have HG9 : Hid (w.grownBy w6.drew none) := Lib.hid (HF5.out.trans (HF7.out.trans (grown_drewN' w6 1)))
      have HW9 : Hid (W.drew.grownBy w6.drew none) := Lib.hid (HW3d.out.trans (HW5.out.trans (HF7.out.trans (grown_drewN' w6 1))))
      refine wp_region_mono 13 (by kernel_rfl) (by kernel_rfl) ?_
      -- op 0 (slot 52): fieldAddr
      refine MonoR.step (Pv.eq (.pointer (some ⟨w.heap.size + 1, 0, none⟩))) [] (by kernel_rfl) (fun w' hw' => ?_) ?_
      · refine ask_do rfl fun K hK => ?_
        go_simp
        exact hK _ _ rfl rfl (World.grownBy.refl _ none)
      -- op 1 (slot 53): load
      refine MonoR.step (Pv.eq (.int .u64 x.1)) [(0, 52)] (by kernel_rfl) (fun w' hw' => ?_) ?_
      · intro x52 h52
        have e52 : x52 = .pointer (some ⟨w.heap.size + 1, 0, none⟩) := h52
        clear h52
        subst e52
        refine ask_do rfl fun K hK => ?_
        have qq := HLD.out w' (HW9.out.trans hw')
        have q0 := qq.1
        have q1 := qq.2.1
        have q2 := qq.2.2.1
        have q3 := qq.2.2.2.1
        have q4 := qq.2.2.2.2
        clear qq
        go_simp
        exact hK _ _ rfl rfl (World.grownBy.refl _ none)
      -- op 2 (slot 54): fieldAddr
      refine MonoR.step (Pv.eq (.pointer (some ⟨w.heap.size + 1 + 1, 0, none⟩))) [] (by kernel_rfl) (fun w' hw' => ?_) ?_
      · refine ask_do rfl fun K hK => ?_
        go_simp
        exact hK _ _ rfl rfl (World.grownBy.refl _ none)
      -- op 3 (slot 55): load
      refine MonoR.step (Pv.eq (.int .u64 y.1)) [(2, 54)] (by kernel_rfl) (fun w' hw' => ?_) ?_
      · intro x54 h54
        have e54 : x54 = .pointer (some ⟨w.heap.size + 1 + 1, 0, none⟩) := h54
        clear h54
        subst e54
        refine ask_do rfl fun K hK => ?_
        have qq := HLD.out w' (HW9.out.trans hw')
        have q0 := qq.1
        have q1 := qq.2.1
        have q2 := qq.2.2.1
        have q3 := qq.2.2.2.1
        have q4 := qq.2.2.2.2
        clear qq
        go_simp
        exact hK _ _ rfl rfl (World.grownBy.refl _ none)
      -- op 4 (slot 56): fieldAddr
      refine MonoR.step (Pv.eq (.pointer (some ⟨w.heap.size, 1, none⟩))) [] (by kernel_rfl) (fun w' hw' => ?_) ?_
      · refine ask_do rfl fun K hK => ?_
        go_simp
        exact hK _ _ rfl rfl (World.grownBy.refl _ none)
      -- op 5 (slot 57): load
      refine MonoR.step (Pv.eq (.int .u64 p.Q)) [(4, 56)] (by kernel_rfl) (fun w' hw' => ?_) ?_
      · intro x56 h56
        have e56 : x56 = .pointer (some ⟨w.heap.size, 1, none⟩) := h56
        clear h56
        subst e56
        refine ask_do rfl fun K hK => ?_
        have qq := HLD.out w' (HW9.out.trans hw')
        have q0 := qq.1
        have q1 := qq.2.1
        have q2 := qq.2.2.1
        have q3 := qq.2.2.2.1
        have q4 := qq.2.2.2.2
        clear qq
        go_simp
        exact hK _ _ rfl rfl (World.grownBy.refl _ none)
      -- op 6 (slot 58): call
      refine MonoR.step (Pv.eq (.int .u64 s1)) [(1, 53), (3, 55), (5, 57)] (by kernel_rfl) (fun w' hw' => ?_) ?_
      · intro x53 h53
        intro x55 h55
        intro x57 h57
        have e53 : x53 = .int .u64 x.1 := h53
        clear h53
        subst e53
        have e55 : x55 = .int .u64 y.1 := h55
        clear h55
        subst e55
        have e57 : x57 = .int .u64 p.Q := h57
        clear h57
        subst e57
        refine ask_do rfl fun K hK => ?_
        go_simp
        have hh := refsub_any x.1 y.1 p.Q w' HU.out.2.1.1 HU.out.2.2.1 HU.out.1.Q
        rw [← HS1.out] at hh
        refine hh.mono ?_
        rintro e w4 ⟨rfl, m4, rfl⟩
        exact hK _ _ rfl rfl (grown_drewN' w' m4)
      -- op 7 (slot 59): move
      refine MonoR.step (Pv.eq (.int .u64 iv)) [] (by kernel_rfl) (fun w' hw' => ?_) ?_
      · refine ask_do rfl fun K hK => ?_
        go_simp
        exact hK _ _ rfl rfl (World.grownBy.refl _ none)
      -- op 8 (slot 60): fieldAddr
      refine MonoR.step (Pv.eq (.pointer (some ⟨w.heap.size, 1, none⟩))) [] (by kernel_rfl) (fun w' hw' => ?_) ?_
      · refine ask_do rfl fun K hK => ?_
        go_simp
        exact hK _ _ rfl rfl (World.grownBy.refl _ none)
      -- op 9 (slot 61): load
      refine MonoR.step (Pv.eq (.int .u64 p.Q)) [(8, 60)] (by kernel_rfl) (fun w' hw' => ?_) ?_
      · intro x60 h60
        have e60 : x60 = .pointer (some ⟨w.heap.size, 1, none⟩) := h60
        clear h60
        subst e60
        refine ask_do rfl fun K hK => ?_
        have qq := HLD.out w' (HW9.out.trans hw')
        have q0 := qq.1
        have q1 := qq.2.1
        have q2 := qq.2.2.1
        have q3 := qq.2.2.2.1
        have q4 := qq.2.2.2.2
        clear qq
        go_simp
        exact hK _ _ rfl rfl (World.grownBy.refl _ none)
      -- op 10 (slot 62): call
      refine MonoR.step (Pv.eq (.int .u64 (mulI s1 iv p.Q))) [(6, 58), (7, 59), (9, 61)] (by kernel_rfl) (fun w' hw' => ?_) ?_
      · intro x58 h58
        intro x59 h59
        intro x61 h61
        have e58 : x58 = .int .u64 s1 := h58
        clear h58
        subst e58
        have e59 : x59 = .int .u64 iv := h59
        clear h59
        subst e59
        have e61 : x61 = .int .u64 p.Q := h61
        clear h61
        subst e61
        refine ask_do rfl fun K hK => ?_
        go_simp
        refine (refmul_any s1 iv p.Q w' (by rw [HS1.out]; exact subI_U64 _ _ _) HIU.out HU.out.1.Q).mono ?_
        rintro e w4 ⟨rfl, m4, rfl⟩
        exact hK _ _ rfl rfl (grown_drewN' w' m4)
      -- op 11 (slot 6): assign
      refine MonoR.step (Pv.eq (.int .u64 (mulI s1 iv p.Q))) [(10, 62)] (by kernel_rfl) (fun w' hw' => ?_) ?_
      · intro x62 h62
        have e62 : x62 = .int .u64 (mulI s1 iv p.Q) := h62
        clear h62
        subst e62
        refine ask_do rfl fun K hK => ?_
        go_simp
        exact hK _ _ rfl rfl (World.grownBy.refl _ none)
      -- op 12 (slot 7): assign
      refine MonoR.step (Pv.eq (.bool true)) [] (by kernel_rfl) (fun w' hw' => ?_) ?_
      · refine ask_do rfl fun K hK => ?_
        go_simp
        exact hK _ _ rfl rfl (World.grownBy.refl _ none)
      
      intro w9 hw9
      intro y0 e0 y1 e1 y2 e2 y3 e3 y4 e4 y5 e5 y6 e6 y7 e7 y8 e8 y9 e9 y10 e10 y11 e11 y12 e12
      have e11 : y11 = .int .u64 (mulI s1 iv p.Q) := e11
      have e12 : y12 = .bool true := e12
      subst e11 e12
      have HF : Hid (w.grownBy w9 none) := Lib.hid (HG9.out.trans hw9)
      clear e0 e1 e2 e3 e4 e5 e6 e7 e8 e9 e10 hw9
      simp only [Act.put, List.setIfInBounds_toArray, List.set_cons_zero, List.set_cons_succ]
      refine wpList_nil ?_
      go_wp2
      go_ret2
      exact ⟨by rw [HRS.out, HV.out]; rfl, HF.out⟩
end Go.Proofs.YtlhjbllfcbojmaaDoor

namespace Go.Proofs.YtlhjbllfcbojmaaDoor
open Go Go.RowKit Go.Shelf

set_option maxRecDepth 100000 in
set_option maxHeartbeats 1000000 in
theorem r30look_any (p : Par) (vo vl : Value) (op : List (Int × Int)) (l : List HH) (X Y : Nat → Prop) (w : World) (hp : p.ok) (ho : Sl encP X w vo op) (hl : Sl encH Y w vl l) :
    Calls Tryd.prog 14 #[p.v, vo, vl] w fun e w' => e = .returned (.tuple #[.int .u64 (xlook p (offI p op l)).1, .bool (xlook p (offI p op l)).2]) ∧ w.grownBy w' none := by
  obtain ⟨r, hr⟩ : ∃ z, z = offI p op l := ⟨_, rfl⟩
  have HR := Lib.hid hr
  obtain ⟨W, hW⟩ : ∃ W, W = w.alloc (.cells p.cells 24) := ⟨_, rfl⟩
  have HG : Hid (w.grownBy W none) := Lib.hid (by rw [hW]; exact World.grownBy_alloc _ _ none)
  have HP : Hid (Bk W w.heap.size 24 p.cells) := Lib.hid (by rw [hW]; exact Bk.new w _ _)
  have HOFF : Hid (Calls Tryd.prog 12 #[p.v, vo, vl] W fun e w' => e = .returned (offV r) ∧ W.grownBy w' none) := Lib.hid (by
    rw [hr]
    exact r30off_any p vo vl op l X Y W hp (ho.kept HG.out) (hl.kept HG.out))
  have HUU : Hid (∀ x y, r = some (x, y) → (U64 x.1 ∧ U64 x.2) ∧ U64 y.1 ∧ U64 y.2) := Lib.hid (fun x y e => offI_U64 (by rw [← hr]; exact e))
  have HPO := Lib.hid hp
  obtain ⟨Ao, no, co, rfl⟩ := ho.shape
  obtain ⟨Al, nl, cl, rfl⟩ := hl.shape
  rw [← hr]
  clear hr hp ho hl
  have hp0 := HP.out.prule
  go_enter Tryd.func14, Tryd.ntmps14
  go_wp2_with fail
  rw [← hW]
  have hp1 := hp0
  rw [hW] at hp1
  clear hp1
  clear hW
  refine HOFF.out.mono ?_
  rintro e w2 ⟨rfl, hg⟩
  have HG2 : Hid (w.grownBy w2 none ∧ W.grownBy w2 none) := Lib.hid ⟨HG.out.trans hg, hg⟩
  clear hg hp0 HOFF
  cases r with
  | none =>
    have hv : offV none = .tuple #[.agg #[.int .u64 0, .int .u64 0], .agg #[.int .u64 0, .int .u64 0], .bool false] := rfl
    rw [hv]
    clear hv
    have HF : Hid (w.grownBy ((w2.alloc (.cells #[.int .u64 0, .int .u64 0] 26)).alloc (.cells #[.int .u64 0, .int .u64 0] 26)) none) := Lib.hid (HG2.out.1.trans ((World.grownBy_alloc _ _ none).trans (World.grownBy_alloc _ _ none)))
    go_wp2
    go_ret2
    exact ⟨rfl, HF.out⟩
  | some xy =>
    obtain ⟨⟨x1, x2⟩, ⟨y1, y2⟩⟩ := xy
    have hu := HUU.out _ _ rfl
    have HXP := Lib.hid hu
    have hv : offV (some ((x1, x2), (y1, y2))) = .tuple #[.agg #[.int .u64 x1, .int .u64 x2], .agg #[.int .u64 y1, .int .u64 y2], .bool true] := rfl
    rw [hv]
    clear hv hu HUU
    obtain ⟨w3, hw3⟩ : ∃ z, z = (w2.alloc (.cells #[.int .u64 x1, .int .u64 x2] 26)).alloc (.cells #[.int .u64 y1, .int .u64 y2] 26) := ⟨_, rfl⟩
    have HG3 : Hid (w2.grownBy w3 none) := Lib.hid (by rw [hw3]; exact grown_two0)
    have hp3 : ∀ o, w3.cell? ⟨w.heap.size, o, none⟩ = (#[.int .u64 p.P, .int .u64 p.Q, .int .u64 p.G, .int .u64 p.H, .int .i64 p.Nodes, .int .i64 p.N, .int .i64 p.T, .int .i64 p.K, .int .i64 p.D, .int .i64 p.R, .int .i64 p.M, .int .i64 p.X] : Array Value)[o]? := (HP.out.grown (HG2.out.2.trans HG3.out) (by simp)).prule
    rw [hw3] at hp3
    go_wp2_with fail
    rw [← hw3]
    clear hw3 hp3
    refine (r30power_any p (x1, x2) (y1, y2) w3 HPO.out HXP.out.1 HXP.out.2).mono ?_
    rintro e w4 ⟨rfl, hg4⟩
    have HF : Hid (w.grownBy w4 none) := Lib.hid (HG2.out.1.trans (HG3.out.trans hg4))
    obtain ⟨q, hq⟩ : ∃ z, z = xpow p (x1, x2) (y1, y2) := ⟨_, rfl⟩
    have HQ : Hid (xlook p (some ((x1, x2), (y1, y2))) = q) := Lib.hid hq.symm
    rw [← hq]
    clear hq hg4
    go_wp2
    go_ret2
    exact ⟨by rw [HQ.out]; rfl, HF.out⟩
end Go.Proofs.YtlhjbllfcbojmaaDoor

namespace Go.Proofs.YtlhjbllfcbojmaaDoor
open Go Go.RowKit

/-- The late operations: 0 and 1 make the blocks, 2 and 3 write them. -/
structure TwoC (t1 t2 : TypeId) (z1 z2 c1 c2 : Array Value) (D : World) (vs : List (Nat × Value)) (W : World) : Prop where
  gr : D.grownBy W none
  one : ∀ u, (0, u) ∈ vs → ∃ g, u = .pointer (some ⟨g, 0, none⟩) ∧ D.heap.size ≤ g ∧ (2 ∉ vs.map (·.1) → Bk W g t1 z1) ∧ (2 ∈ vs.map (·.1) → Bk W g t1 c1) ∧ g < W.heap.size
  two : ∀ u, (1, u) ∈ vs → ∃ g, u = .pointer (some ⟨g, 0, none⟩) ∧ D.heap.size ≤ g ∧ (3 ∉ vs.map (·.1) → Bk W g t2 z2) ∧ (3 ∈ vs.map (·.1) → Bk W g t2 c2) ∧ g < W.heap.size
  ne : ∀ g g', (0, .pointer (some ⟨g, 0, none⟩)) ∈ vs → (1, .pointer (some ⟨g', 0, none⟩)) ∈ vs → g ≠ g'
  o1 : 2 ∈ vs.map (·.1) → 0 ∈ vs.map (·.1)
  o2 : 3 ∈ vs.map (·.1) → 1 ∈ vs.map (·.1)
  q1 : ∀ u v, (0, u) ∈ vs → (0, v) ∈ vs → u = v
  q2 : ∀ u v, (1, u) ∈ vs → (1, v) ∈ vs → u = v
def twoBoxLt (t1 t2 : TypeId) (z1 z2 c1 c2 : Array Value) (D : World) : FR.Lt where
  C := TwoC t1 t2 z1 z2 c1 c2 D
  R q _ w w' := w.grownBy w' none ∨ q = 2 ∨ q = 3
  G W W' := W.grownBy W' none
  g := fun ⟨h1, h2, h3, h4, h5, h6, h7, h8⟩ hg => ⟨h1.trans hg, fun u hu => by
    obtain ⟨g, e, a, b, c, d⟩ := h2 u hu
    exact ⟨g, e, a, fun h => (b h).grown hg (by simp), fun h => (c h).grown hg (by simp), Nat.lt_of_lt_of_le d hg.size⟩, fun u hu => by
    obtain ⟨g, e, a, b, c, d⟩ := h3 u hu
    exact ⟨g, e, a, fun h => (b h).grown hg (by simp), fun h => (c h).grown hg (by simp), Nat.lt_of_lt_of_le d hg.size⟩, h4, h5, h6, h7, h8⟩
section
variable {t1 t2 : TypeId} {z1 z2 c1 c2 : Array Value} {D W W' : World} {vs : List (Nat × Value)} {u : Value} {g : Nat}
theorem TwoC.start : TwoC t1 t2 z1 z2 c1 c2 D [] D := ⟨World.grownBy.refl _ _, by simp, by simp, by simp, by simp, by simp, by simp, by simp⟩
theorem mem_snoc_ne {q r : Nat} {v : Value} (h : (r, v) ∈ vs ++ [(q, u)]) (hne : r ≠ q) : (r, v) ∈ vs := by
  rcases List.mem_append.1 h with h | h
  · exact h
  · rw [List.mem_singleton] at h
    injection h with h1 _
    exact absurd h1 hne
theorem mem_snoc_new {q : Nat} {v : Value} (h : (q, v) ∈ vs ++ [(q, u)]) (hn : q ∉ vs.map (·.1)) : v = u := by
  rcases List.mem_append.1 h with h | h
  · exact absurd (List.mem_map.2 ⟨_, h, rfl⟩) hn
  · rw [List.mem_singleton] at h
    injection h
theorem TwoC.mk1 (h : TwoC t1 t2 z1 z2 c1 c2 D vs W) (hn : 0 ∉ vs.map (·.1)) : TwoC t1 t2 z1 z2 c1 c2 D (vs ++ [(0, .pointer (some ⟨W.heap.size, 0, none⟩))]) (W.alloc (.cells z1 t1)) := by
  have hg := World.grownBy_alloc W (.cells z1 t1) none
  refine ⟨h.gr.trans hg, fun u hu => ?_, fun u hu => ?_, fun g g' h1 h2 => ?_, fun hm => ?_, fun hm => ?_, fun u v h1 h2 => (mem_snoc_new h1 hn).trans (mem_snoc_new h2 hn).symm, fun u v h1 h2 => h.q2 u v (mem_snoc_ne h1 (by decide)) (mem_snoc_ne h2 (by decide))⟩
  · obtain rfl := mem_snoc_new hu hn
    exact ⟨_, rfl, h.gr.size, fun _ => Bk.new _ _ _, fun hm => absurd (h.o1 ((fr_snoc.1 hm).resolve_right (by decide))) hn, by simp⟩
  · obtain ⟨g, e, a, b, c, d⟩ := h.two u (mem_snoc_ne hu (by decide))
    exact ⟨g, e, a, fun hm => (b fun hk => hm (fr_snoc.2 (.inl hk))).grown hg (by simp), fun hm => (c ((fr_snoc.1 hm).resolve_right (by decide))).grown hg (by simp), by simp; omega⟩
  · have e := mem_snoc_new h1 hn
    obtain ⟨g2, e2, _, _, _, d⟩ := h.two _ (mem_snoc_ne h2 (by decide))
    injection e with e
    injection e with e
    injection e with e
    injection e2 with e2
    injection e2 with e2
    injection e2 with e2
    omega
  · exact fr_snoc.2 (.inr rfl)
  · exact fr_snoc.2 (.inl (h.o2 ((fr_snoc.1 hm).resolve_right (by decide))))
theorem TwoC.mk2 (h : TwoC t1 t2 z1 z2 c1 c2 D vs W) (hn : 1 ∉ vs.map (·.1)) : TwoC t1 t2 z1 z2 c1 c2 D (vs ++ [(1, .pointer (some ⟨W.heap.size, 0, none⟩))]) (W.alloc (.cells z2 t2)) := by
  have hg := World.grownBy_alloc W (.cells z2 t2) none
  refine ⟨h.gr.trans hg, fun u hu => ?_, fun u hu => ?_, fun g g' h1 h2 => ?_, fun hm => ?_, fun hm => ?_, fun u v h1 h2 => h.q1 u v (mem_snoc_ne h1 (by decide)) (mem_snoc_ne h2 (by decide)), fun u v h1 h2 => (mem_snoc_new h1 hn).trans (mem_snoc_new h2 hn).symm⟩
  · obtain ⟨g, e, a, b, c, d⟩ := h.one u (mem_snoc_ne hu (by decide))
    exact ⟨g, e, a, fun hm => (b fun hk => hm (fr_snoc.2 (.inl hk))).grown hg (by simp), fun hm => (c ((fr_snoc.1 hm).resolve_right (by decide))).grown hg (by simp), by simp; omega⟩
  · obtain rfl := mem_snoc_new hu hn
    exact ⟨_, rfl, h.gr.size, fun _ => Bk.new _ _ _, fun hm => absurd (h.o2 ((fr_snoc.1 hm).resolve_right (by decide))) hn, by simp⟩
  · have e := mem_snoc_new h2 hn
    obtain ⟨g2, e2, _, _, _, d⟩ := h.one _ (mem_snoc_ne h1 (by decide))
    injection e with e
    injection e with e
    injection e with e
    injection e2 with e2
    injection e2 with e2
    injection e2 with e2
    omega
  · exact fr_snoc.2 (.inl (h.o1 ((fr_snoc.1 hm).resolve_right (by decide))))
  · exact fr_snoc.2 (.inr rfl)
theorem TwoC.put1 (h : TwoC t1 t2 z1 z2 c1 c2 D vs W) (hm : (0, .pointer (some ⟨g, 0, none⟩)) ∈ vs) (hb : Bk W' g t1 c1) (hG : W.grownBy W' (some g)) : TwoC t1 t2 z1 z2 c1 c2 D (vs ++ [(2, u)]) W' := by
  obtain ⟨g1, e1, a1, _, _, d1⟩ := h.one _ hm
  injection e1 with e1
  injection e1 with e1
  injection e1 with e1
  subst e1
  refine ⟨h.gr.andThen hG (fun j e => .inl (by injection e with e; omega)), fun v hv => ?_, fun v hv => ?_, fun g1 g2 h1 h2 => h.ne _ _ (mem_snoc_ne h1 (by decide)) (mem_snoc_ne h2 (by decide)), fun _ => fr_snoc.2 (.inl (List.mem_map.2 ⟨_, hm, rfl⟩)), fun hm' => fr_snoc.2 (.inl (h.o2 ((fr_snoc.1 hm').resolve_right (by decide)))), fun u v h1 h2 => h.q1 u v (mem_snoc_ne h1 (by decide)) (mem_snoc_ne h2 (by decide)), fun u v h1 h2 => h.q2 u v (mem_snoc_ne h1 (by decide)) (mem_snoc_ne h2 (by decide))⟩
  · have := h.q1 _ _ (mem_snoc_ne hv (by decide)) hm
    exact ⟨g, this, a1, fun hk => absurd (fr_snoc.2 (.inr rfl)) hk, fun _ => hb, hb.lt⟩
  · have hv' := mem_snoc_ne hv (by decide)
    obtain ⟨g2, e, a, b, c, d⟩ := h.two v hv'
    have hne : some g2 ≠ some g := fun e' => by
      injection e' with e'
      subst e'
      subst e
      exact h.ne _ _ hm hv' rfl
    exact ⟨g2, e, a, fun hk => (b fun hk' => hk (fr_snoc.2 (.inl hk'))).grown hG hne, fun hk => (c ((fr_snoc.1 hk).resolve_right (by decide))).grown hG hne, Nat.lt_of_lt_of_le d hG.size⟩
theorem TwoC.put2 (h : TwoC t1 t2 z1 z2 c1 c2 D vs W) (hm : (1, .pointer (some ⟨g, 0, none⟩)) ∈ vs) (hb : Bk W' g t2 c2) (hG : W.grownBy W' (some g)) : TwoC t1 t2 z1 z2 c1 c2 D (vs ++ [(3, u)]) W' := by
  obtain ⟨g1, e1, a1, _, _, d1⟩ := h.two _ hm
  injection e1 with e1
  injection e1 with e1
  injection e1 with e1
  subst e1
  refine ⟨h.gr.andThen hG (fun j e => .inl (by injection e with e; omega)), fun v hv => ?_, fun v hv => ?_, fun g1 g2 h1 h2 => h.ne _ _ (mem_snoc_ne h1 (by decide)) (mem_snoc_ne h2 (by decide)), fun hm' => fr_snoc.2 (.inl (h.o1 ((fr_snoc.1 hm').resolve_right (by decide)))), fun _ => fr_snoc.2 (.inl (List.mem_map.2 ⟨_, hm, rfl⟩)), fun u v h1 h2 => h.q1 u v (mem_snoc_ne h1 (by decide)) (mem_snoc_ne h2 (by decide)), fun u v h1 h2 => h.q2 u v (mem_snoc_ne h1 (by decide)) (mem_snoc_ne h2 (by decide))⟩
  · have hv' := mem_snoc_ne hv (by decide)
    obtain ⟨g2, e, a, b, c, d⟩ := h.one v hv'
    have hne : some g2 ≠ some g := fun e' => by
      injection e' with e'
      subst e'
      subst e
      exact h.ne _ _ hv' hm rfl
    exact ⟨g2, e, a, fun hk => (b fun hk' => hk (fr_snoc.2 (.inl hk'))).grown hG hne, fun hk => (c ((fr_snoc.1 hk).resolve_right (by decide))).grown hG hne, Nat.lt_of_lt_of_le d hG.size⟩
  · have := h.q2 _ _ (mem_snoc_ne hv (by decide)) hm
    exact ⟨g, this, a1, fun hk => absurd (fr_snoc.2 (.inr rfl)) hk, fun _ => hb, hb.lt⟩
end
/-- A slice that is told ahead of both stores. -/
def twoSl {α : Type} (E : Enc α) (X : Nat → Prop) (xs : List α) {t1 t2 : TypeId} {z1 z2 c1 c2 : Array Value} {D : World} : FR.Qv (twoBoxLt t1 t2 z1 z2 c1 c2 D) where
  p vs v w := 2 ∉ vs.map (·.1) → 3 ∉ vs.map (·.1) → Sl E X w v xs
  st h hg h2 h3 := (h h2 h3).kept hg
  sr {vs q u v w w'} _ hr h h2 h3 := by
    have h4 := h (fun hm => h2 (fr_snoc.2 (.inl hm))) (fun hm => h3 (fr_snoc.2 (.inl hm)))
    rcases hr with hr | hr | hr
    · exact h4.kept hr
    · exact absurd (fr_snoc.2 (.inr hr.symm)) h2
    · exact absurd (fr_snoc.2 (.inr hr.symm)) h3
end Go.Proofs.YtlhjbllfcbojmaaDoor

namespace Go.Proofs.YtlhjbllfcbojmaaDoor
open Go.ChangeShapes Go.WideShapes Go.RowKit

set_option maxRecDepth 100000 in
theorem open_params {H : Type} {enc : TypeId × Value → H} {w : World} {base : Nat} {spare : Nat → Bool} {held : Bool} {r : Reach} {b0 : Nat} {v : Value} {d : DataW H} {pl : List MemPlace}
    (hv : Value.okWide Tryd.prog w r b0 24 v) (h : DataW.Trod enc Tryd.prog w base spare held 24 v d pl) : ∃ p : Par, v = p.v ∧ p.ok := by
  obtain ⟨cs, rfl, hsz⟩ := okWide_struct Tryd.underlying24 hv
  obtain ⟨l⟩ := cs
  have hc : Tryd.prog.cellsOf 24 = 12 := by kernel_rfl
  have cu : Tryd.prog.cellsOf 22 = 1 := by kernel_rfl
  have ci : Tryd.prog.cellsOf 3 = 1 := by kernel_rfl
  have cj : Tryd.prog.cellsOf 2 = 1 := by kernel_rfl
  match l, hsz.trans hc with
  | [c0, c1, c2, c3, c4, c5, c6, c7, c8, c9, c10, c11], _ =>
    obtain ⟨fuel, hf⟩ := h
    obtain ⟨xs, n, _, _, _, hlen, hg⟩ := DataW.trod_struct Tryd.underlying24 hf
    match xs, hlen with
    | [y0, y1, y2, y3, y4, y5, y6, y7, y8, y9, y10, y11], _ =>
      have g0 := hg 0 _ rfl
      have g1 := hg 1 _ rfl
      have g2 := hg 2 _ rfl
      have g3 := hg 3 _ rfl
      have g4 := hg 4 _ rfl
      have g5 := hg 5 _ rfl
      have g6 := hg 6 _ rfl
      have g7 := hg 7 _ rfl
      have g8 := hg 8 _ rfl
      have g9 := hg 9 _ rfl
      have g10 := hg 10 _ rfl
      have g11 := hg 11 _ rfl
      simp [Value.cells, cu, ci, cj] at g0 g1 g2 g3 g4 g5 g6 g7 g8 g9 g10 g11
      obtain ⟨a0, e0, _, w0⟩ := DataW.trod_int Tryd.underlying22 g0
      simp at e0
      obtain ⟨a1, e1, _, w1⟩ := DataW.trod_int Tryd.underlying22 g1
      simp at e1
      obtain ⟨a2, e2, _, w2⟩ := DataW.trod_int Tryd.underlying22 g2
      simp at e2
      obtain ⟨a3, e3, _, w3⟩ := DataW.trod_int Tryd.underlying22 g3
      simp at e3
      obtain ⟨a4, e4, _, w4⟩ := DataW.trod_int Tryd.underlying3 g4
      simp at e4
      obtain ⟨a5, e5, _, w5⟩ := DataW.trod_int Tryd.underlying3 g5
      simp at e5
      obtain ⟨a6, e6, _, w6⟩ := DataW.trod_int Tryd.underlying3 g6
      simp at e6
      obtain ⟨a7, e7, _, w7⟩ := DataW.trod_int Tryd.underlying3 g7
      simp at e7
      obtain ⟨a8, e8, _, w8⟩ := DataW.trod_int Tryd.underlying3 g8
      simp at e8
      obtain ⟨a9, e9, _, w9⟩ := DataW.trod_int Tryd.underlying3 g9
      simp at e9
      obtain ⟨a10, e10, _, w10⟩ := DataW.trod_int Tryd.underlying2 g10
      simp at e10
      obtain ⟨a11, e11, _, w11⟩ := DataW.trod_int Tryd.underlying2 g11
      simp at e11
      subst e0 e1 e2 e3 e4 e5 e6 e7 e8 e9 e10 e11
      exact ⟨⟨a0, a1, a2, a3, a4, a5, a6, a7, a8, a9, a10, a11⟩, rfl, ⟨u64_wf w0, u64_wf w1, u64_wf w2, u64_wf w3, i64_wf w4, i64_wf w5, i64_wf w6, i64_wf w7, i64_wf w8, i64_wf w9, i64_wf w10, i64_wf w11⟩⟩
set_option maxRecDepth 100000 in
theorem open_pair {H : Type} {enc : TypeId × Value → H} {w : World} {base : Nat} {spare : Nat → Bool} {held : Bool} {r : Reach} {b0 : Nat} {v : Value} {d : DataW H} {pl : List MemPlace}
    (hv : Value.okWide Tryd.prog w r b0 26 v) (h : DataW.Trod enc Tryd.prog w base spare held 26 v d pl) : ∃ x : Int × Int, v = .agg #[.int .u64 x.1, .int .u64 x.2] ∧ U64 x.1 ∧ U64 x.2 := by
  obtain ⟨cs, rfl, hsz⟩ := okWide_struct Tryd.underlying26 hv
  obtain ⟨l⟩ := cs
  have hc : Tryd.prog.cellsOf 26 = 2 := by kernel_rfl
  have cu : Tryd.prog.cellsOf 22 = 1 := by kernel_rfl
  match l, hsz.trans hc with
  | [c0, c1], _ =>
    obtain ⟨fuel, hf⟩ := h
    obtain ⟨xs, n, _, _, _, hlen, hg⟩ := DataW.trod_struct Tryd.underlying26 hf
    match xs, hlen with
    | [y0, y1], _ =>
      have g0 := hg 0 _ rfl
      have g1 := hg 1 _ rfl
      simp [Value.cells, cu] at g0 g1
      obtain ⟨a0, e0, _, w0⟩ := DataW.trod_int Tryd.underlying22 g0
      obtain ⟨a1, e1, _, w1⟩ := DataW.trod_int Tryd.underlying22 g1
      simp at e0 e1
      subst e0 e1
      exact ⟨(a0, a1), rfl, u64_wf w0, u64_wf w1⟩
theorem cells_u64 : Tryd.prog.cellsOf 22 = 1 := by kernel_rfl
theorem cells_pair : Tryd.prog.cellsOf 26 = 2 := by kernel_rfl
end Go.Proofs.YtlhjbllfcbojmaaDoor

namespace Go.Proofs.YtlhjbllfcbojmaaDoor
open Go.ChangeShapes Go.WideShapes Go.RowKit

/-- Whatever is read at this type, each of its slices no larger than the address space, reads so. -/
def ReadsZ {α : Type} (E : Enc α) (t : TypeId) (G : α → Prop) : Prop :=
  ∀ {H : Type} {enc : TypeId × Value → H} {w : World} {base : Nat} {spare : Nat → Bool} {held : Bool} {fuel : Nat} {cs : List Value} {x : DataW H × List MemPlace},
    DataW.trod enc Tryd.prog w base spare held fuel t cs = some x → (∀ b ∈ x.1.weights Tryd.prog t, b ≤ reachBytes) → ∃ a, E.rep (fun _ => True) w cs a ∧ G a
theorem Reads.z {α : Type} {E : Enc α} {t : TypeId} (h : Reads E t) : ReadsZ E t (fun _ => True) := fun ht _ => by
  obtain ⟨a, ha⟩ := h ht
  exact ⟨a, ha, trivial⟩
/-- Lists of no more than 2^44 things, each so. -/
def LG {α : Type} (G : α → Prop) (l : List α) : Prop := l.length ≤ 17592186044415 ∧ ∀ y ∈ l, G y
theorem weightsAll_mem {H : Type} {P : Program} {e : TypeId} {b : Nat} : ∀ {l : List (DataW H)} {d : DataW H}, d ∈ l → b ∈ d.weights P e → b ∈ DataW.weightsAll P e l
  | x :: l, d, hd, hb => by
    rw [DataW.weightsAll]
    rcases List.mem_cons.1 hd with rfl | hd
    · exact List.mem_append_left _ hb
    · exact List.mem_append_right _ (weightsAll_mem hd hb)
theorem reads_slZ {α : Type} {E : Enc α} {t e : TypeId} {G : α → Prop} (ht : Tryd.prog.underlying t = some (.slice e)) (hE : ReadsZ E e G) (hc : Tryd.prog.cellsOf e = E.size) (hb : 8 ≤ Tryd.prog.bytesOf e) : ReadsZ (encS E) t (LG G) := by
  intro H enc w base spare held fuel cs x h hz
  rcases Go.Deep.open_slice ht h with ⟨rfl, _⟩ | ⟨a, len, cap, m, n, D, Pl, rfl, _, hl, hm, hmm, rfl, hi⟩
  · exact ⟨[], ⟨_, rfl, Sl.nil _ _ _⟩, Nat.zero_le _, fun y hy => absurd hy (by simp)⟩
  · have hlm : len ≤ m := by rw [hmm]; split <;> omega
    have hzz : ∀ b ∈ DataW.weights Tryd.prog t (DataW.slice ((List.range len).map D) ((List.range (m - len)).map fun j => D (len + j))), b ≤ reachBytes := hz
    rw [DataW.weights, ht] at hzz
    have hz0 : (((List.range len).map D).length + ((List.range (m - len)).map fun j => D (len + j)).length) * Tryd.prog.bytesOf e ≤ reachBytes := hzz _ List.mem_cons_self
    have hlen8 : len ≤ 17592186044415 := by
      rw [List.length_map, List.length_map, List.length_range, List.length_range] at hz0
      have h1 : len * 8 ≤ (len + (m - len)) * Tryd.prog.bytesOf e := Nat.mul_le_mul (by omega) hb
      unfold reachBytes at hz0
      omega
    have hzi : ∀ i, i < len → ∀ b ∈ (D i).weights Tryd.prog e, b ≤ reachBytes := fun i hi b hb => hzz b (List.mem_cons_of_mem _ (List.mem_append_left _ (weightsAll_mem (List.mem_map.2 ⟨i, List.mem_range.2 hi, rfl⟩) hb)))
    have key : ∀ i, i < len → ∃ y, (∃ cs', E.rep (fun _ => True) w cs' y ∧ ∀ j, j < E.size → w.cell? (a.add (i * E.size + j)) = cs'[j]?) ∧ G y := by
      intro i hil
      obtain ⟨cs', hcell, htr⟩ := hi i (by omega)
      obtain ⟨y, hy, hG⟩ := hE htr (hzi i hil)
      obtain ⟨_, hlen, hat⟩ := World.cells?_some hcell
      rw [hc] at hat
      refine ⟨y, ⟨cs', hy, fun j hj => ?_⟩, hG⟩
      rw [← hat j hj, Go.Deep.add_add]
    have hcz : ∃ f : Fin len → α, ∀ i : Fin len, (∃ cs', E.rep (fun _ => True) w cs' (f i) ∧ ∀ j, j < E.size → w.cell? (a.add (i.1 * E.size + j)) = cs'[j]?) ∧ G (f i) :=
      ⟨fun i => Classical.choose (key i.1 i.2), fun i => Classical.choose_spec (key i.1 i.2)⟩
    obtain ⟨f, hf'⟩ := hcz
    have hf : ∀ i : Fin len, ∃ cs', E.rep (fun _ => True) w cs' (f i) ∧ ∀ j, j < E.size → w.cell? (a.add (i.1 * E.size + j)) = cs'[j]? := fun i => (hf' i).1
    have hlen : (List.ofFn f).length = len := List.length_ofFn
    refine ⟨List.ofFn f, ⟨_, rfl, some a, cap, by rw [hlen], by omega, by unfold maxLen at hm; omega, fun hn => ?_⟩, by rw [hlen]; exact hlen8, fun y hy => ?_⟩
    · have hpos : 0 < len := by rw [← hlen]; exact List.length_pos_iff.2 hn
      obtain ⟨cs0, hr0, hc0⟩ := hf ⟨0, hpos⟩
      have h00 := hc0 0 E.pos
      have hl0 := E.len hr0
      rw [List.getElem?_eq_getElem (by rw [hl0]; exact E.pos)] at h00
      obtain ⟨g, o, sp⟩ := a
      have hsp : sp = none := by simpa [Addr.add] using World.cell?_spot h00
      subst hsp
      have h00' : w.cell? ⟨g, o, none⟩ = some (cs0[0]'(by rw [hl0]; exact E.pos)) := by simpa [Addr.add] using h00
      have hgl : g < w.heap.size := by
        rcases Nat.lt_or_ge g w.heap.size with hlt | hge
        · exact hlt
        · simp [World.cell?, Array.getElem?_eq_none hge] at h00'
      refine ⟨g, o, rfl, hgl, trivial, fun i hi' => ?_⟩
      obtain ⟨cs', hr', hc'⟩ := hf ⟨i, by omega⟩
      refine ⟨cs', by simpa using hr', fun j u hu => ?_⟩
      have hj : j < E.size := by
        rw [← E.len hr']
        exact (List.getElem?_eq_some_iff.1 hu).1
      rw [← hu, ← hc' j hj]
      have : (⟨g, o, none⟩ : Addr).add (i * E.size + j) = ⟨g, o + i * E.size + j, none⟩ := by
        unfold Addr.add
        split
        · rename_i h0
          have : i * E.size + j = 0 := by simpa using h0
          rw [show o + i * E.size + j = o by omega]
        · rw [Nat.add_assoc]
      rw [this]
    · obtain ⟨i, rfl⟩ := List.mem_ofFn.1 hy
      exact (hf' i).2
/-- A slice that came in as an argument, within the bounds. -/
theorem open_slZ {α : Type} {E : Enc α} {t : TypeId} {G : List α → Prop} (hR : ReadsZ (encS E) t G) {H : Type} {enc : TypeId × Value → H} {w : World} {base : Nat} {spare : Nat → Bool} {held : Bool} {a : Option Addr} {len cap : Nat} {d : DataW H} {p : List MemPlace}
    (h : DataW.Trod enc Tryd.prog w base spare held t (.slice a len cap) d p) (hz : ∀ b ∈ d.weights Tryd.prog t, b ≤ reachBytes) : ∃ xs, Sl E (fun _ => True) w (.slice a len cap) xs ∧ G xs := by
  obtain ⟨fuel, hf⟩ := h
  obtain ⟨xs, ⟨v, e, hs⟩, hg⟩ := hR hf hz
  simp [Value.cells] at e
  exact ⟨xs, by rw [e]; exact hs, hg⟩
theorem weights_head {H : Type} {P : Program} {t : TypeId} {ts : List TypeId} {d : DataW H} {r : List (DataW H)} (h : (DataW.weightsEach P (t :: ts) (d :: r)).all (· ≤ reachBytes) = true) : ∀ b ∈ d.weights P t, b ≤ reachBytes := fun b hb => by
  have h2 := (List.all_eq_true.1 h) b (by rw [DataW.weightsEach]; exact List.mem_append_left _ hb)
  simpa using h2
theorem weights_tail {H : Type} {P : Program} {t : TypeId} {ts : List TypeId} {d : DataW H} {r : List (DataW H)} (h : (DataW.weightsEach P (t :: ts) (d :: r)).all (· ≤ reachBytes) = true) : (DataW.weightsEach P ts r).all (· ≤ reachBytes) = true :=
  List.all_eq_true.2 fun b hb => (List.all_eq_true.1 h) b (by rw [DataW.weightsEach]; exact List.mem_append_right _ hb)
theorem readsZ_pairs : ReadsZ (encS encP) 27 (LG fun _ => True) := reads_slZ Tryd.underlying27 (Reads.z (reads_pair Tryd.underlying26 ⟨rfl, rfl⟩ ⟨rfl, rfl⟩ Tryd.underlying22 cells_pair cells_u64)) cells_pair (of_decide_eq_true (by kernel_rfl))
end Go.Proofs.YtlhjbllfcbojmaaDoor

namespace Go.Proofs.YtlhjbllfcbojmaaDoor
open Go.ChangeShapes Go.WideShapes Go.RowKit

theorem cells_held : Tryd.prog.cellsOf 45 = 3 := by kernel_rfl
theorem cells_pairs' : Tryd.prog.cellsOf 27 = 1 := by kernel_rfl
theorem cells_int' : Tryd.prog.cellsOf 3 = 1 := by kernel_rfl
theorem three_list {α : Type} : ∀ {l : List α}, l.length = 3 → ∃ a b c, l = [a, b, c]
  | [a, b, c], _ => ⟨a, b, c, rfl⟩
theorem readsZ_held1 : ReadsZ encH 45 (fun h => h.2.2.length ≤ 17592186044415) := by
  intro H enc w base spare held fuel cs x h hz
  obtain ⟨xs, n, _, hx, hl, hlen, hf⟩ := DataW.trod_struct Tryd.underlying45 h
  rw [cells_held] at hl
  obtain ⟨y0, y1, y2, rfl⟩ := three_list hlen
  obtain ⟨c0, c1, c2, rfl⟩ := three_list hl
  have g0 := hf 0 _ rfl
  have g1 := hf 1 _ rfl
  have g2 := hf 2 _ rfl
  simp [cells_int', cells_pairs'] at g0 g1 g2
  obtain ⟨a0, e0, _, w0⟩ := DataW.trod_int Tryd.underlying3 g0
  obtain ⟨a1, e1, _, w1⟩ := DataW.trod_int Tryd.underlying3 g1
  have hz2 : ∀ b ∈ y2.1.weights Tryd.prog 27, b ≤ reachBytes := fun b hb => hz b (by
    rw [hx]
    show b ∈ DataW.weights Tryd.prog 45 (.agg [y0.1, y1.1, y2.1])
    rw [DataW.weights, Tryd.underlying45]
    show b ∈ _ ++ (_ ++ (_ ++ _))
    exact List.mem_append_right _ (List.mem_append_right _ (List.mem_append_left _ hb)))
  obtain ⟨l, ⟨v, e2, hs⟩, hG⟩ := readsZ_pairs g2 hz2
  simp at e0 e1 e2
  subst e0 e1 e2
  exact ⟨(a0, a1, l), ⟨_, rfl, i64_wf w0, i64_wf w1, hs⟩, hG.1⟩
theorem readsZ_helds : ReadsZ (encS encH) 28 (LG fun h => h.2.2.length ≤ 17592186044415) := reads_slZ Tryd.underlying28 readsZ_held1 cells_held (of_decide_eq_true (by kernel_rfl))
end Go.Proofs.YtlhjbllfcbojmaaDoor

namespace Go.Proofs.YtlhjbllfcbojmaaDoor
open Go.RowKit
def tabL : List Int := [0, 1, 56, 2, 57, 49, 28, 3, 61, 58, 42, 50, 38, 29, 17, 4, 62, 47, 59, 36, 45, 43, 51, 22, 53, 39, 33, 30, 24, 18, 12, 5, 63, 55, 48, 27, 60, 41, 37, 16, 46, 35, 44, 21, 52, 32, 23, 11, 54, 26, 40, 15, 34, 20, 31, 10, 25, 14, 19, 9, 13, 8, 7, 6]
theorem tabZ' : ∀ j, j < 64 → tabL.getD j 0 = ((Lib.deBruijn64tab.getD j 0 : Nat) : Int) := by decide
theorem tabZ (j : Nat) (hj : j < Lib.deBruijn64tab.length) : tabL.getD j 0 = ((Lib.deBruijn64tab.getD j 0 : Nat) : Int) := tabZ' j hj
/-- What an initialiser lays into a variable's block. -/
def layCells (cs : Array Value) : Obj → Obj
  | .cells _ t f => .cells cs t f
  | o => o
end Go.Proofs.YtlhjbllfcbojmaaDoor

namespace Go.Proofs.YtlhjbllfcbojmaaDoor
open Go Go.RowKit Go.Shelf

theorem findSome_only {α β : Type} {f : α → Option β} {x0 : α} : ∀ l : List α, (∀ x ∈ l, x ≠ x0 → f x = none) → x0 ∈ l → l.findSome? f = f x0
  | [], _, h => absurd h (by simp)
  | x :: l, hn, hm => by
    rw [List.findSome?_cons]
    rcases Classical.em (x = x0) with rfl | hx
    · cases hf : f x with
      | some b => rfl
      | none =>
        refine List.findSome?_eq_none_iff.2 fun y hy => ?_
        rcases Classical.em (y = x) with rfl | h
        · exact hf
        · exact hn y (by simp [hy]) h
    · rw [hn x (by simp) hx]
      exact findSome_only l (fun y hy => hn y (by simp [hy])) (by
        rcases List.mem_cons.1 hm with h | h
        · exact absurd h.symm hx
        · exact h)
def noneB (l : List HH) : Bool := (List.range 65).all fun e => (setsI 2 1).all fun s => (haveO (tblI 2 l e) s).isNone
def oneB (l : List HH) (e0 : Nat) (s0 : List Int) (L : List (List (Int × Int))) : Bool := (List.range 65).all fun e => (setsI 2 1).all fun s => if e == e0 && s == s0 then haveO (tblI 2 l e) s == some L else (haveO (tblI 2 l e) s).isNone
theorem off_not (p : Par) (op : List (Int × Int)) (l : List HH) (h : ¬ (mayP p = true ∧ (op.length : Int) = secretsI p)) : offI p op l = none := by
  unfold offI
  rw [if_neg h]
theorem may_ps : mayP ps = true := by decide +kernel
theorem sec_ps : secretsI ps = 2 := by decide +kernel
theorem off_none (op : List (Int × Int)) (l : List HH) (hop : op.length = 2) (h : noneB l = true) : offI ps op l = none := by
  unfold offI
  rw [if_pos ⟨may_ps, by rw [hop, sec_ps]; rfl⟩, sec_ps]
  refine List.findSome?_eq_none_iff.2 fun e he => ?_
  refine List.findSome?_eq_none_iff.2 fun s hs => ?_
  have h1 := List.all_eq_true.1 (List.all_eq_true.1 h e he) s hs
  unfold offSet
  rw [Option.isNone_iff_eq_none.1 h1]
theorem off_one (op : List (Int × Int)) (l : List HH) (e0 : Nat) (s0 : List Int) (L : List (List (Int × Int))) (hop : op.length = 2) (he : e0 ∈ List.range 65) (hs : s0 ∈ setsI 2 1) (h : oneB l e0 s0 L = true) : offI ps op l = firstOff ps (sumL ps s0 L) op := by
  unfold offI
  rw [if_pos ⟨may_ps, by rw [hop, sec_ps]; rfl⟩, sec_ps]
  have key : ∀ e, e ∈ List.range 65 → ∀ s, s ∈ setsI 2 1 → if e = e0 ∧ s = s0 then haveO (tblI 2 l e) s = some L else haveO (tblI 2 l e) s = none := fun e he s hs => by
    have h1 := List.all_eq_true.1 (List.all_eq_true.1 h e he) s hs
    by_cases hc : e = e0 ∧ s = s0
    · rw [if_pos hc]
      obtain ⟨rfl, rfl⟩ := hc
      simpa using h1
    · rw [if_neg hc]
      have : (e == e0 && s == s0) = false := by
        rw [Bool.and_eq_false_iff]
        simp
        rcases Classical.em (e = e0) with h | h
        · exact .inr fun h2 => hc ⟨h, h2⟩
        · exact .inl h
      rw [this] at h1
      simpa using h1
  have e1 : ((List.range 65).findSome? fun e => offRow ps op (tblI 2 l e) (setsI 2 1)) = offRow ps op (tblI 2 l e0) (setsI 2 1) := findSome_only _ (fun e he' hne => by
    refine List.findSome?_eq_none_iff.2 fun s hs => ?_
    have h1 := key e he' s hs
    rw [if_neg (fun h => hne h.1)] at h1
    unfold offSet
    rw [h1]) he
  have e2 : offRow ps op (tblI 2 l e0) (setsI 2 1) = offSet ps op (tblI 2 l e0) s0 := findSome_only _ (fun s hs' hne => by
    have h1 := key e0 he s hs'
    rw [if_neg (fun h => hne h.2)] at h1
    unfold offSet
    rw [h1]) hs
  have e3 := key e0 he s0 hs
  rw [if_pos ⟨rfl, rfl⟩] at e3
  refine (e1.trans e2).trans ?_
  unfold offSet
  rw [e3]
def xpowC (p : Par) (x y : Int × Int) : Int × Bool :=
  if commitI p x = commitI p y ∧ redI p x ≠ redI p y ∧ (invF (subI y.2 x.2 p.Q) p.Q).isSome = true then (mulI (subI x.1 y.1 p.Q) ((invF (subI y.2 x.2 p.Q) p.Q).getD 0 : Nat) p.Q, true) else (0, false)
theorem xpow_eq (p : Par) (x y : Int × Int) (hq : 0 < p.Q) : xpow p x y = xpowC p x y := by
  unfold xpow xpowC
  simp only [hasInv_invF hq, invI_invF hq]
abbrev opA : List (Int × Int) := [(5, 2), (7, 5)]
abbrev opB : List (Int × Int) := [(1, 8), (7, 5)]
abbrev opC : List (Int × Int) := [(1, 2), (7, 5)]
abbrev shO : List (Int × Int) := [(6, 5), (0, 0)]
abbrev shT : List (Int × Int) := [(7, 8), (4, 6)]
abbrev heldL : List HH := [(2, 2, shT), (2, 1, shO)]
abbrev badL : List HH := [(0, 1, shO), (0, 2, shO), (65, 1, shO), (65, 2, shO), (1, 0, shO), (1, 8, shO), (1, 1, shO), (1, 1, shT), (1, 2, [(6, 5)]), (3, 2, shT)]
abbrev poddX : Par := ⟨23, 11, 4, 9, 4, 3, 1, 1, 1, 1, 1, 1⟩
abbrev pzX : Par := ⟨0, 0, 0, 0, 0, 0, 0, 0, 0, 0, 0, 0⟩
theorem poddX_ok : poddX.ok := by constructor <;> exact ⟨by decide, by decide⟩
theorem pzX_ok : pzX.ok := by constructor <;> exact ⟨by decide, by decide⟩
theorem held_one : oneB heldL 2 [1, 2] [shO, shT] = true := by decide +kernel
theorem bad_none : noneB badL = true := by decide +kernel
theorem off_A : offI ps opA heldL = none := by rw [off_one opA heldL 2 [1, 2] [shO, shT] rfl (by decide) (by decide) held_one, sumL_eq]; decide +kernel
theorem off_B : offI ps opB heldL = some ((5, 2), (1, 8)) := by rw [off_one opB heldL 2 [1, 2] [shO, shT] rfl (by decide) (by decide) held_one, sumL_eq]; decide +kernel
theorem off_C : offI ps opC heldL = some ((5, 2), (1, 2)) := by rw [off_one opC heldL 2 [1, 2] [shO, shT] rfl (by decide) (by decide) held_one, sumL_eq]; decide +kernel
theorem off_D : offI ps opA badL = none := off_none opA badL rfl bad_none
theorem off_E : offI poddX [(0, 0), (0, 0)] heldL = none := off_not _ _ _ (fun h => absurd h.1 (by decide +kernel))
theorem off_F : offI ps [(5, 2)] heldL = none := off_not _ _ _ (fun h => absurd h.2 (by decide +kernel))
theorem look_A : xlook ps (offI ps opA heldL) = (0, false) := by rw [off_A]; rfl
theorem look_B : xlook ps (offI ps opB heldL) = (8, true) := by rw [off_B]; show xpow ps (5, 2) (1, 8) = _; rw [xpow_eq _ _ _ (by decide)]; decide +kernel
theorem look_C : xlook ps (offI ps opC heldL) = (0, false) := by rw [off_C]; show xpow ps (5, 2) (1, 2) = _; rw [xpow_eq _ _ _ (by decide)]; decide +kernel
theorem pow_1 : xpow ps (1, 1) (4, 2) = (8, true) := by rw [xpow_eq _ _ _ (by decide)]; decide +kernel
theorem pow_2 : xpow ps (1, 1) (1, 2) = (0, false) := by rw [xpow_eq _ _ _ (by decide)]; decide +kernel
theorem pow_3 : xpow ps (5, 2) (5, 2) = (0, false) := by rw [xpow_eq _ _ _ (by decide)]; decide +kernel
theorem pow_4 : xpow ps (5, 2) (16, 13) = (0, false) := by rw [xpow_eq _ _ _ (by decide)]; decide +kernel
theorem kn_1 : xknows ps 8 = true := by decide +kernel
theorem kn_2 : xknows ps 19 = true := by decide +kernel
theorem kn_3 : xknows ps 3 = false := by decide +kernel
theorem kn_4 : xknows poddX 8 = false := by decide +kernel
theorem kn_5 : xknows pzX 0 = false := by decide +kernel
end Go.Proofs.YtlhjbllfcbojmaaDoor

namespace Go.Proofs.YtlhjbllfcbojmaaDoor
open Go Go.RowKit Go.Shelf

set_option maxHeartbeats 400000 in
theorem small30_any (w : World) : Calls Tryd.prog 15 #[] w fun e w' => e = .returned ps.v ∧ w.grownBy w' none := by
  have HB := Lib.hid (Bk.new w 24 #[.int .u64 0, .int .u64 0, .int .u64 0, .int .u64 0, .int .i64 0, .int .i64 0, .int .i64 0, .int .i64 0, .int .i64 0, .int .i64 0, .int .i64 0, .int .i64 0])
  go_enter Tryd.func15, Tryd.ntmps15
  go_wp2
  first
    | (go_ret; exact ⟨rfl, World.grownBy.refl _ none⟩)
    | exact bodyPost_ret (v := ps.v) (by simp [results, Tryd.results15, go_sem]) rfl ⟨rfl, World.grownBy_alloc w _ none⟩
theorem xpow_c {x y : Int × Int} {n : Int} {b : Bool} (h : xpow ps x y = (n, b)) (w : World) (hx : U64 x.1 ∧ U64 x.2) (hy : U64 y.1 ∧ U64 y.2) :
    Calls Tryd.prog 6 #[ps.v, .agg #[.int .u64 x.1, .int .u64 x.2], .agg #[.int .u64 y.1, .int .u64 y.2]] w fun e w' => e = .returned (.tuple #[.int .u64 n, .bool b]) ∧ w.grownBy w' none := by
  have hh := xpower_any ps x y w ps_ok hx hy
  rw [h] at hh
  exact hh
theorem xkn_c {p : Par} {k : Int} {b : Bool} (h : xknows p k = b) (hp : p.ok) (w : World) (hT : TabsAt w) (hk : U64 k) :
    Calls Tryd.prog 8 #[p.v, .int .u64 k] w fun e w' => e = .returned (.bool b) ∧ w.grownBy w' none := by
  have hh := xknows_any p k w hp hT hk
  rw [h] at hh
  exact hh
theorem xoff_no {p : Par} {op : List (Int × Int)} {l : List HH} {X Y : Nat → Prop} (h : offI p op l = none) (hp : p.ok) {w : World} {vo vl : Value} (hT : TabsAt w) (ho : Sl encP X w vo op) (hl : Sl encH Y w vl l) :
    Calls Tryd.prog 10 #[p.v, vo, vl] w fun e w' => e = .returned (.tuple #[.agg #[.int .u64 0, .int .u64 0], .agg #[.int .u64 0, .int .u64 0], .bool false]) ∧ w.grownBy w' none := by
  have hh := off_any p vo vl op l X Y w hp hT ho hl
  rw [h] at hh
  exact hh
theorem xoff_is {p : Par} {op : List (Int × Int)} {l : List HH} {X Y : Nat → Prop} {x y : Int × Int} (h : offI p op l = some (x, y)) (hp : p.ok) {w : World} {vo vl : Value} (hT : TabsAt w) (ho : Sl encP X w vo op) (hl : Sl encH Y w vl l) :
    Calls Tryd.prog 10 #[p.v, vo, vl] w fun e w' => e = .returned (.tuple #[.agg #[.int .u64 x.1, .int .u64 x.2], .agg #[.int .u64 y.1, .int .u64 y.2], .bool true]) ∧ w.grownBy w' none := by
  have hh := off_any p vo vl op l X Y w hp hT ho hl
  rw [h] at hh
  exact hh
theorem xlook_c {op : List (Int × Int)} {l : List HH} {X Y : Nat → Prop} {n : Int} {b : Bool} (h : xlook ps (offI ps op l) = (n, b)) {w : World} {vo vl : Value} (hT : TabsAt w) (ho : Sl encP X w vo op) (hl : Sl encH Y w vl l) :
    Calls Tryd.prog 13 #[ps.v, vo, vl] w fun e w' => e = .returned (.tuple #[.int .u64 n, .bool b]) ∧ w.grownBy w' none := by
  have hh := xlook_any ps vo vl op l X Y w ps_ok hT ho hl
  rw [h] at hh
  exact hh
abbrev u6 (a b : Int) (ha : U64 a := by decide) (hb : U64 b := by decide) : U64 a ∧ U64 b := ⟨ha, hb⟩
set_option maxHeartbeats 1000000 in
theorem works30_any (w : World) (hT : TabsAt w) : Calls Tryd.prog 16 #[] w fun e w' => e = .returned (.bool true) ∧ w.grownBy w' none := by
  have HTB := Lib.hid hT
  clear hT
  go_enter Tryd.func16, Tryd.ntmps16
  go_wp2_with fail
  refine (small30_any w).mono ?_
  rintro e w1 ⟨rfl, hg1⟩
  obtain ⟨w2, hw2⟩ : ∃ y, y = w1.alloc (Obj.cells ps.cells 24) := ⟨_, rfl⟩
  obtain ⟨gp, hgp⟩ : ∃ y, y = w1.heap.size := ⟨_, rfl⟩
  have HBp : Hid (Bk w2 gp 24 ps.cells) := Lib.hid (by rw [hw2, hgp]; exact Bk.new _ _ _)
  have HG2 : Hid (w.grownBy w2 none) := Lib.hid (by rw [hw2]; exact hg1.trans (World.grownBy_alloc _ _ none))
  clear hg1
  go_upto_region 2 with (fail)
  first | rw [← hw2, ← hgp] | (have hw2' : w1.alloc (Obj.cells #[.int .u64 23, .int .u64 11, .int .u64 4, .int .u64 9, .int .i64 4, .int .i64 4, .int .i64 1, .int .i64 1, .int .i64 1, .int .i64 1, .int .i64 1, .int .i64 1] 24) = w2 := hw2.symm; rw [hw2', ← hgp]; clear hw2')
  clear hw2 hgp
  have hp := HBp.out.prule
  go_wp2_with fail
  refine (xpow_c pow_1 _ (u6 1 1) (u6 4 2)).mono ?_
  rintro e w3 ⟨rfl, hg3⟩
  have HB3 := Lib.hid (HBp.out.grown hg3 (by simp))
  have HG3 : Hid (w.grownBy w3 none) := Lib.hid (HG2.out.trans hg3)
  clear hp hg3 HBp HG2
  have hp := HB3.out.prule
  go_wp2_with fail
  refine (xpow_c pow_2 _ (u6 1 1) (u6 1 2)).mono ?_
  rintro e w4 ⟨rfl, hg4⟩
  have HB4 := Lib.hid (HB3.out.grown hg4 (by simp))
  have HG4 : Hid (w.grownBy w4 none) := Lib.hid (HG3.out.trans hg4)
  clear hp hg4 HB3 HG3
  have hp := HB4.out.prule
  go_wp2_with fail
  refine (xkn_c kn_1 ps_ok _ (HTB.out.kept HG4.out) (by decide)).mono ?_
  rintro e w5 ⟨rfl, hg5⟩
  have HB5 := Lib.hid (HB4.out.grown hg5 (by simp))
  have HG5 : Hid (w.grownBy w5 none) := Lib.hid (HG4.out.trans hg5)
  clear hp hg5 HB4 HG4
  have hp := HB5.out.prule
  go_wp2_with fail
  refine (xkn_c kn_2 ps_ok _ (HTB.out.kept HG5.out) (by decide)).mono ?_
  rintro e w6 ⟨rfl, hg6⟩
  have HB6 := Lib.hid (HB5.out.grown hg6 (by simp))
  have HG6 : Hid (w.grownBy w6 none) := Lib.hid (HG5.out.trans hg6)
  clear hp hg6 HB5 HG5
  have hp := HB6.out.prule
  go_wp2_with fail
  refine (xkn_c kn_3 ps_ok _ (HTB.out.kept HG6.out) (by decide)).mono ?_
  rintro e w7 ⟨rfl, hg7⟩
  have HG7 : Hid (w.grownBy w7 none) := Lib.hid (HG6.out.trans hg7)
  clear hp hg7
  go_wp2
  go_ret
  exact ⟨rfl, HG7.out⟩
end Go.Proofs.YtlhjbllfcbojmaaDoor
