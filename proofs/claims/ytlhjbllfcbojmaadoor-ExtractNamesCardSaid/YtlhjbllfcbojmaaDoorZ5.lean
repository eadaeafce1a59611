/- consistoryref30.at, walked (printed by mk_refat.py and mkt.py). consistoryref30.Off: the plain law: what it goes through is what the table holds. consistoryref30.sets, walked (printed by mkt.py). The document's Times, Power, Commit, At, Is of the layer group, walked: what they tell is what group's tell. The document's test for primes (consistoryref01: against, Prime), walked. The document's Plain and May (consistoryref02), walked, test by test (printed by mk_plain.py). Numbers: primes, powers, and what Miller and Rabin's test tells of a prime divisor. Gauss's lemma, and that whether a number is a square modulo a prime hangs on the prime modulo four times the number. Rows of numbers at equal steps that are squares, or none, modulo the twelve bases: told by bits. -/
import Derived.Test.YtlhjbllfcbojmaaDoorZ4
namespace Go.Proofs.YtlhjbllfcbojmaaDoor
open Go Go.RowKit Go.Shelf

/-- The share of an epoch, at an index. -/
def isH (s e i : Int) (h : HH) : Bool := decide (h.1 = e) && decide (h.2.1 = i) && decide ((h.2.2.length : Int) = s)
def atO (s : Int) (l : List HH) (e i : Int) : Option (List (Int × Int)) := (l.find? (isH s e i)).map (·.2.2)
theorem atO_at {s e i : Int} {l : List HH} {k : Nat} (hk : k < l.length) (h : ∀ x ∈ l.take k, isH s e i x = false) (hh : isH s e i l[k] = true) : atO s l e i = some l[k].2.2 := by
  unfold atO
  rw [List.find?_eq_some_iff_getElem.2 ⟨hh, k, hk, rfl, fun j hj => by
    rw [h l[j] (List.mem_take_iff_getElem.2 ⟨j, by omega, rfl⟩)]
    rfl⟩]
  rfl
theorem atO_none {s e i : Int} {l : List HH} (h : ∀ x ∈ l, isH s e i x = false) : atO s l e i = none := by
  unfold atO
  rw [List.find?_eq_none.2 (fun x hx => by rw [h x hx]; simp)]
  rfl
theorem isH_case (s e i a b n : Int) : (decide (a = e) = false ∧ ∀ L : List (Int × Int), isH s e i (a, b, L) = false) ∨ (decide (a = e) = true ∧ decide (b = i) = false ∧ ∀ L : List (Int × Int), isH s e i (a, b, L) = false) ∨ (decide (a = e) = true ∧ decide (b = i) = true ∧ decide (n = s) = false ∧ ∀ L : List (Int × Int), (L.length : Int) = n → isH s e i (a, b, L) = false) ∨ (decide (a = e) = true ∧ decide (b = i) = true ∧ decide (n = s) = true ∧ ∀ L : List (Int × Int), (L.length : Int) = n → isH s e i (a, b, L) = true) := by
  by_cases h1 : a = e
  · by_cases h2 : b = i
    · by_cases h3 : n = s
      · exact .inr (.inr (.inr ⟨by simp [h1], by simp [h2], by simp [h3], fun L hL => by simp [isH, h1, h2, hL, h3]⟩))
      · exact .inr (.inr (.inl ⟨by simp [h1], by simp [h2], by simp [h3], fun L hL => by simp [isH, h1, h2, hL, h3]⟩))
    · exact .inr (.inl ⟨by simp [h1], by simp [h2], fun L => by simp [isH, h2]⟩)
  · exact .inl ⟨by simp [h1], fun L => by simp [isH, h1]⟩
set_option maxRecDepth 100000 in
set_option maxHeartbeats 2000000 in
theorem r30at_any (p : Par) (vl : Value) (l : List HH) (e i : Int) (X : Nat → Prop) (w : World) (hl : Sl encH X w vl l) :
    Calls Tryd.prog 35 #[p.v, vl, .int .i64 e, .int .i64 i] w fun en w' => (∃ v, en = .returned (.tuple #[v, .bool (atO (secretsI p) l e i).isSome]) ∧ Sl encP X w' v ((atO (secretsI p) l e i).getD [])) ∧ w.grownBy w' none := by
  have HP : Hid (Bk (w.alloc (.cells p.cells 24)) w.heap.size 24 p.cells) := Lib.hid (Bk.new w _ _)
  have HG0 : Hid (w.grownBy (w.alloc (.cells p.cells 24)) none) := Lib.hid (World.grownBy_alloc w _ none)
  have HL := Lib.hid hl
  obtain ⟨A, c, rfl, hc1, hc2⟩ := hl.form
  obtain ⟨n, hn⟩ : ∃ z, z = l.length := ⟨_, rfl⟩
  have HN := Lib.hid hn
  rw [← hn] at hc1 ⊢
  obtain ⟨sc, hsc⟩ : ∃ z, z = secretsI p := ⟨_, rfl⟩
  have HSC := Lib.hid hsc
  have HSE : Hid (∀ w, Calls Tryd.prog 33 #[p.v] w fun e w' => e = .returned (.int .i64 sc) ∧ w.grownBy w' none) := Lib.hid (by rw [hsc]; exact fun w => r08secrets_any p w)
  rw [← hsc]
  obtain ⟨R, hR⟩ : ∃ z, z = atO sc l e i := ⟨_, rfl⟩
  have HR := Lib.hid hR
  rw [← hR]
  clear hn hsc hR hl
  go_enter Tryd.func35, Tryd.ntmps35
  go_wp2_with fail
  go_loopg [10] n (fun g s10 wx => ∃ k : Nat, k + g = n ∧ s10 = .int .i64 (k : Int) ∧ Hid (Bk wx w.heap.size 24 p.cells ∧ w.grownBy wx none ∧ ∀ x ∈ l.take k, isH sc e i x = false))
  case atStart => exact ⟨0, by omega, rfl, Lib.hid ⟨HP.out, HG0.out, by simp⟩⟩
  case round =>
    obtain ⟨k, hk, rfl, HX⟩ := hrel
    cases gk with
    | zero =>
      obtain rfl : k = n := by omega
      have HV : Hid (R = none) := Lib.hid (by
        rw [HR.out]
        have := HX.out.2.2
        rw [List.take_of_length_le (by rw [← HN.out]; exact Nat.le_refl _)] at this
        exact atO_none this)
      have HG := Lib.hid HX.out.2.1
      clear HX
      go_wp2
      go_ret2
      exact ⟨⟨_, by rw [HV.out]; rfl, by rw [HV.out]; exact Sl.nil _ _ _⟩, HG.out⟩
    | succ m =>
      have hkn : (k : Int) < (n : Int) := by omega
      have hk0 : (0 : Int) ≤ (k : Int) := Int.natCast_nonneg k
      have hkl : k < l.length := by have := HN.out; omega
      have HG := Lib.hid HX.out.2.1
      have HB := Lib.hid HX.out.1
      have HALLF := Lib.hid HX.out.2.2
      clear HX
      obtain ⟨g, o, c', u, ee, hgl, hXg, hcell, hi1, hi2, hsu⟩ := (HL.out.kept HG.out).atH hkl
      injection ee with ee en ec
      subst ee
      clear en ec
      obtain ⟨a, ha⟩ : ∃ z, z = l[k].1 := ⟨_, rfl⟩
      obtain ⟨b, hb⟩ : ∃ z, z = l[k].2.1 := ⟨_, rfl⟩
      obtain ⟨L, hL⟩ : ∃ z, z = l[k].2.2 := ⟨_, rfl⟩
      have HLK : Hid (l[k] = (a, b, L)) := Lib.hid (by rw [ha, hb, hL])
      have HTK : Hid (l.take (k + 1) = l.take k ++ [l[k]]) := Lib.hid (List.take_append_getElem hkl).symm
      rw [← ha, ← hb] at hcell
      rw [← hL] at hsu
      obtain ⟨A3, c3, rfl, hc3, hc3'⟩ := hsu.form
      have HSU := Lib.hid hsu
      obtain ⟨m3, hm3⟩ : ∃ z, z = L.length := ⟨_, rfl⟩
      have HM3 := Lib.hid hm3
      rw [← hm3] at hcell hc3 HSU
      have HLD : Hid (∀ w', wr.drew.grownBy w' none → w'.cell? ⟨g, o + k * 3, none⟩ = some (.int .i64 a) ∧ w'.cell? ⟨g, o + k * 3 + 1, none⟩ = some (.int .i64 b) ∧ w'.cell? ⟨g, o + k * 3 + 2, none⟩ = some (.slice A3 m3 c3) ∧ ∀ o, w'.cell? ⟨w.heap.size, o, none⟩ = (#[.int .u64 p.P, .int .u64 p.Q, .int .u64 p.G, .int .u64 p.H, .int .i64 p.Nodes, .int .i64 p.N, .int .i64 p.T, .int .i64 p.K, .int .i64 p.D, .int .i64 p.R, .int .i64 p.M, .int .i64 p.X] : Array Value)[o]?) := Lib.hid (fun w' hw' => by
        have h := (grown_drewN' wr 1).trans hw'
        exact ⟨cellE hcell.1 h (by simp), cellE hcell.2.1 h (by simp), cellE hcell.2.2 h (by simp), (HB.out.grown h (by simp)).prule⟩)
      have HWR : Hid (wr.grownBy wr.drew none) := Lib.hid (grown_drewN' wr 1)
      have HKL := Lib.hid hkl
      clear hcell hsu ha hb hL hm3 hgl hXg hi1 hi2
      obtain ⟨DA, hDA⟩ : ∃ z, z = decide (a = e) := ⟨_, rfl⟩
      obtain ⟨DB, hDB⟩ : ∃ z, z = decide (b = i) := ⟨_, rfl⟩
      obtain ⟨DC, hDC⟩ : ∃ z, z = decide ((m3 : Int) = sc) := ⟨_, rfl⟩
      have HDA := Lib.hid hDA
      have HDB := Lib.hid hDB
      have HDC := Lib.hid hDC
      have hcase := isH_case sc e i a b m3
      rw [← hDA, ← hDB, ← hDC] at hcase
      clear hDA hDB hDC
      rcases hcase with ⟨h1, hF⟩ | ⟨h1, h2, hF⟩ | ⟨h1, h2, h3, hF⟩ | ⟨h1, h2, h3, hF⟩
      · have HFF : Hid (∀ x ∈ l.take (k + 1), isH sc e i x = false) := Lib.hid (fun x hx => by
          rw [HTK.out] at hx
          rcases List.mem_append.1 hx with hx | hx
          · exact HALLF.out x hx
          · rw [List.mem_singleton.1 hx, HLK.out]
            exact hF L)
        subst h1
        clear hF
        go_upto_region 4 with (fail)
        refine wp_region_mono 27 (by kernel_rfl) (by kernel_rfl) ?_
        -- op 0 (slot 17): move
        refine MonoR.step (Pv.eq (.slice (some ⟨g, o, none⟩) n c)) [] (by kernel_rfl) (fun w' hw' => ?_) ?_
        · refine ask_do rfl fun K hK => ?_
          go_simp
          exact hK _ _ rfl rfl (World.grownBy.refl _ none)
        -- op 1 (slot 18): move
        refine MonoR.step (Pv.eq (.int .i64 (k : Int))) [] (by kernel_rfl) (fun w' hw' => ?_) ?_
        · refine ask_do rfl fun K hK => ?_
          go_simp
          exact hK _ _ rfl rfl (World.grownBy.refl _ none)
        -- op 2 (slot 19): indexAddr
        refine MonoR.step (Pv.eq (.pointer (some ⟨g, o + k * 3, none⟩))) [(0, 17), (1, 18)] (by kernel_rfl) (fun w' hw' => ?_) ?_
        · intro x17 h17
          intro x18 h18
          have e17 : x17 = .slice (some ⟨g, o, none⟩) n c := h17
          clear h17
          subst e17
          have e18 : x18 = .int .i64 (k : Int) := h18
          clear h18
          subst e18
          refine ask_do rfl fun K hK => ?_
          go_simp
          exact hK _ _ rfl rfl (World.grownBy.refl _ none)
        -- op 3 (slot 20): fieldAddr
        refine MonoR.step (Pv.eq (.pointer (some ⟨g, o + k * 3, none⟩))) [(2, 19)] (by kernel_rfl) (fun w' hw' => ?_) ?_
        · intro x19 h19
          have e19 : x19 = .pointer (some ⟨g, o + k * 3, none⟩) := h19
          clear h19
          subst e19
          refine ask_do rfl fun K hK => ?_
          go_simp
          exact hK _ _ rfl rfl (World.grownBy.refl _ none)
        -- op 4 (slot 21): load
        refine MonoR.step (Pv.eq (.int .i64 a)) [(3, 20)] (by kernel_rfl) (fun w' hw' => ?_) ?_
        · intro x20 h20
          have e20 : x20 = .pointer (some ⟨g, o + k * 3, none⟩) := h20
          clear h20
          subst e20
          refine ask_do rfl fun K hK => ?_
          obtain ⟨l1, l2, l3, l4⟩ := HLD.out w' hw'
          go_simp
          exact hK _ _ rfl rfl (World.grownBy.refl _ none)
        -- op 5 (slot 22): move
        refine MonoR.step (Pv.eq (.int .i64 e)) [] (by kernel_rfl) (fun w' hw' => ?_) ?_
        · refine ask_do rfl fun K hK => ?_
          go_simp
          exact hK _ _ rfl rfl (World.grownBy.refl _ none)
        -- op 6 (slot 23): binOp
        refine MonoR.step (Pv.eq (.bool false)) [(4, 21), (5, 22)] (by kernel_rfl) (fun w' hw' => ?_) ?_
        · intro x21 h21
          intro x22 h22
          have e21 : x21 = .int .i64 a := h21
          clear h21
          subst e21
          have e22 : x22 = .int .i64 e := h22
          clear h22
          subst e22
          refine ask_do rfl fun K hK => ?_
          go_simp
          exact hK _ _ rfl (by show Value.bool _ = Value.bool _; rw [HDA.out]; rfl) (World.grownBy.refl _ none)
        -- op 7 (slot 24): move
        refine MonoR.step (Pv.eq (.bool false)) [(6, 23)] (by kernel_rfl) (fun w' hw' => ?_) ?_
        · intro x23 h23
          have e23 : x23 = .bool false := h23
          clear h23
          subst e23
          refine ask_do rfl fun K hK => ?_
          go_simp
          exact hK _ _ rfl rfl (World.grownBy.refl _ none)
        -- op 8 (slot 25): move [(7, 'true')]
        refine MonoR.step (Pv.eq (undef)) [(7, 24)] (by kernel_rfl) (fun w' hw' => ?_) ?_
        · intro x24 h24
          have e24 : x24 = .bool false := h24
          clear h24
          subst e24
          exact ask_skip rfl rfl rfl
        -- op 9 (slot 26): move [(7, 'true')]
        refine MonoR.step (Pv.eq (undef)) [(7, 24)] (by kernel_rfl) (fun w' hw' => ?_) ?_
        · intro x24 h24
          have e24 : x24 = .bool false := h24
          clear h24
          subst e24
          exact ask_skip rfl rfl rfl
        -- op 10 (slot 27): indexAddr [(7, 'true')]
        refine MonoR.step (Pv.eq (undef)) [(7, 24), (8, 25), (9, 26)] (by kernel_rfl) (fun w' hw' => ?_) ?_
        · intro x24 h24
          intro x25 h25
          intro x26 h26
          have e24 : x24 = .bool false := h24
          clear h24
          subst e24
          have e25 : x25 = undef := h25
          clear h25
          subst e25
          have e26 : x26 = undef := h26
          clear h26
          subst e26
          exact ask_skip rfl rfl rfl
        -- op 11 (slot 28): fieldAddr [(7, 'true')]
        refine MonoR.step (Pv.eq (undef)) [(7, 24), (10, 27)] (by kernel_rfl) (fun w' hw' => ?_) ?_
        · intro x24 h24
          intro x27 h27
          have e24 : x24 = .bool false := h24
          clear h24
          subst e24
          have e27 : x27 = undef := h27
          clear h27
          subst e27
          exact ask_skip rfl rfl rfl
        -- op 12 (slot 29): load [(7, 'true')]
        refine MonoR.step (Pv.eq (undef)) [(7, 24), (11, 28)] (by kernel_rfl) (fun w' hw' => ?_) ?_
        · intro x24 h24
          intro x28 h28
          have e24 : x24 = .bool false := h24
          clear h24
          subst e24
          have e28 : x28 = undef := h28
          clear h28
          subst e28
          exact ask_skip rfl rfl rfl
        -- op 13 (slot 30): move [(7, 'true')]
        refine MonoR.step (Pv.eq (undef)) [(7, 24)] (by kernel_rfl) (fun w' hw' => ?_) ?_
        · intro x24 h24
          have e24 : x24 = .bool false := h24
          clear h24
          subst e24
          exact ask_skip rfl rfl rfl
        -- op 14 (slot 31): binOp [(7, 'true')]
        refine MonoR.step (Pv.eq (undef)) [(7, 24), (12, 29), (13, 30)] (by kernel_rfl) (fun w' hw' => ?_) ?_
        · intro x24 h24
          intro x29 h29
          intro x30 h30
          have e24 : x24 = .bool false := h24
          clear h24
          subst e24
          have e29 : x29 = undef := h29
          clear h29
          subst e29
          have e30 : x30 = undef := h30
          clear h30
          subst e30
          exact ask_skip rfl rfl rfl
        -- op 15 (slot 32): pick
        refine MonoR.step (Pv.eq (.bool false)) [(7, 24), (14, 31)] (by kernel_rfl) (fun w' hw' => ?_) ?_
        · intro x24 h24
          intro x31 h31
          have e24 : x24 = .bool false := h24
          clear h24
          subst e24
          have e31 : x31 = undef := h31
          clear h31
          subst e31
          refine ask_do rfl fun K hK => ?_
          go_simp
          exact hK _ _ rfl rfl (World.grownBy.refl _ none)
        -- op 16 (slot 33): move
        refine MonoR.step (Pv.eq (.bool false)) [(15, 32)] (by kernel_rfl) (fun w' hw' => ?_) ?_
        · intro x32 h32
          have e32 : x32 = .bool false := h32
          clear h32
          subst e32
          refine ask_do rfl fun K hK => ?_
          go_simp
          exact hK _ _ rfl rfl (World.grownBy.refl _ none)
        -- op 17 (slot 34): move [(16, 'true')]
        refine MonoR.step (Pv.eq (undef)) [(16, 33)] (by kernel_rfl) (fun w' hw' => ?_) ?_
        · intro x33 h33
          have e33 : x33 = .bool false := h33
          clear h33
          subst e33
          exact ask_skip rfl rfl rfl
        -- op 18 (slot 35): move [(16, 'true')]
        refine MonoR.step (Pv.eq (undef)) [(16, 33)] (by kernel_rfl) (fun w' hw' => ?_) ?_
        · intro x33 h33
          have e33 : x33 = .bool false := h33
          clear h33
          subst e33
          exact ask_skip rfl rfl rfl
        -- op 19 (slot 36): indexAddr [(16, 'true')]
        refine MonoR.step (Pv.eq (undef)) [(16, 33), (17, 34), (18, 35)] (by kernel_rfl) (fun w' hw' => ?_) ?_
        · intro x33 h33
          intro x34 h34
          intro x35 h35
          have e33 : x33 = .bool false := h33
          clear h33
          subst e33
          have e34 : x34 = undef := h34
          clear h34
          subst e34
          have e35 : x35 = undef := h35
          clear h35
          subst e35
          exact ask_skip rfl rfl rfl
        -- op 20 (slot 37): fieldAddr [(16, 'true')]
        refine MonoR.step (Pv.eq (undef)) [(16, 33), (19, 36)] (by kernel_rfl) (fun w' hw' => ?_) ?_
        · intro x33 h33
          intro x36 h36
          have e33 : x33 = .bool false := h33
          clear h33
          subst e33
          have e36 : x36 = undef := h36
          clear h36
          subst e36
          exact ask_skip rfl rfl rfl
        -- op 21 (slot 38): load [(16, 'true')]
        refine MonoR.step (Pv.eq (undef)) [(16, 33), (20, 37)] (by kernel_rfl) (fun w' hw' => ?_) ?_
        · intro x33 h33
          intro x37 h37
          have e33 : x33 = .bool false := h33
          clear h33
          subst e33
          have e37 : x37 = undef := h37
          clear h37
          subst e37
          exact ask_skip rfl rfl rfl
        -- op 22 (slot 39): call [(16, 'true')]
        refine MonoR.step (Pv.eq (undef)) [(16, 33), (21, 38)] (by kernel_rfl) (fun w' hw' => ?_) ?_
        · intro x33 h33
          intro x38 h38
          have e33 : x33 = .bool false := h33
          clear h33
          subst e33
          have e38 : x38 = undef := h38
          clear h38
          subst e38
          exact ask_skip rfl rfl rfl
        -- op 23 (slot 40): load [(16, 'true')]
        refine MonoR.step (Pv.eq (undef)) [(16, 33)] (by kernel_rfl) (fun w' hw' => ?_) ?_
        · intro x33 h33
          have e33 : x33 = .bool false := h33
          clear h33
          subst e33
          exact ask_skip rfl rfl rfl
        -- op 24 (slot 41): call [(16, 'true')]
        refine MonoR.step (Pv.eq (undef)) [(16, 33), (23, 40)] (by kernel_rfl) (fun w' hw' => ?_) ?_
        · intro x33 h33
          intro x40 h40
          have e33 : x33 = .bool false := h33
          clear h33
          subst e33
          have e40 : x40 = undef := h40
          clear h40
          subst e40
          exact ask_skip rfl rfl rfl
        -- op 25 (slot 42): binOp [(16, 'true')]
        refine MonoR.step (Pv.eq (undef)) [(16, 33), (22, 39), (24, 41)] (by kernel_rfl) (fun w' hw' => ?_) ?_
        · intro x33 h33
          intro x39 h39
          intro x41 h41
          have e33 : x33 = .bool false := h33
          clear h33
          subst e33
          have e39 : x39 = undef := h39
          clear h39
          subst e39
          have e41 : x41 = undef := h41
          clear h41
          subst e41
          exact ask_skip rfl rfl rfl
        -- op 26 (slot 43): pick
        refine MonoR.step (Pv.eq (.bool false)) [(16, 33), (25, 42)] (by kernel_rfl) (fun w' hw' => ?_) ?_
        · intro x33 h33
          intro x42 h42
          have e33 : x33 = .bool false := h33
          clear h33
          subst e33
          have e42 : x42 = undef := h42
          clear h42
          subst e42
          refine ask_do rfl fun K hK => ?_
          go_simp
          exact hK _ _ rfl rfl (World.grownBy.refl _ none)
        
        intro w4 hw4
        intro y0 f0 y1 f1 y2 f2 y3 f3 y4 f4 y5 f5 y6 f6 y7 f7 y8 f8 y9 f9 y10 f10 y11 f11 y12 f12 y13 f13 y14 f14 y15 f15 y16 f16 y17 f17 y18 f18 y19 f19 y20 f20 y21 f21 y22 f22 y23 f23 y24 f24 y25 f25 y26 f26
        have f26 : y26 = .bool false := f26
        subst f26
        have HG4 : Hid (w.grownBy w4 none) := Lib.hid (HG.out.trans (HWR.out.trans hw4))
        have HB4 := Lib.hid (HB.out.grown (HWR.out.trans hw4) (by simp))
        have hld := HLD.out w4 hw4
        clear hld hw4 f0 f1 f2 f3 f4 f5 f6 f7 f8 f9 f10 f11 f12 f13 f14 f15 f16 f17 f18 f19 f20 f21 f22 f23 f24 f25
        simp only [Act.put, List.setIfInBounds_toArray, List.set_cons_zero, List.set_cons_succ]
        refine wpList_nil ?_
        have HFIN : Hid (Bk w4 w.heap.size 24 p.cells ∧ w.grownBy w4 none ∧ ∀ x ∈ l.take (k + 1), isH sc e i x = false) := Lib.hid ⟨HB4.out, HG4.out, HFF.out⟩
        go_wp2_with fail
        go_roundg m
        case measure => omega
        case rel => exact ⟨k + 1, by omega, by go_num, HFIN⟩
      · have HFF : Hid (∀ x ∈ l.take (k + 1), isH sc e i x = false) := Lib.hid (fun x hx => by
          rw [HTK.out] at hx
          rcases List.mem_append.1 hx with hx | hx
          · exact HALLF.out x hx
          · rw [List.mem_singleton.1 hx, HLK.out]
            exact hF L)
        subst h1 h2
        clear hF
        go_upto_region 4 with (fail)
        refine wp_region_mono 27 (by kernel_rfl) (by kernel_rfl) ?_
        -- op 0 (slot 17): move
        refine MonoR.step (Pv.eq (.slice (some ⟨g, o, none⟩) n c)) [] (by kernel_rfl) (fun w' hw' => ?_) ?_
        · refine ask_do rfl fun K hK => ?_
          go_simp
          exact hK _ _ rfl rfl (World.grownBy.refl _ none)
        -- op 1 (slot 18): move
        refine MonoR.step (Pv.eq (.int .i64 (k : Int))) [] (by kernel_rfl) (fun w' hw' => ?_) ?_
        · refine ask_do rfl fun K hK => ?_
          go_simp
          exact hK _ _ rfl rfl (World.grownBy.refl _ none)
        -- op 2 (slot 19): indexAddr
        refine MonoR.step (Pv.eq (.pointer (some ⟨g, o + k * 3, none⟩))) [(0, 17), (1, 18)] (by kernel_rfl) (fun w' hw' => ?_) ?_
        · intro x17 h17
          intro x18 h18
          have e17 : x17 = .slice (some ⟨g, o, none⟩) n c := h17
          clear h17
          subst e17
          have e18 : x18 = .int .i64 (k : Int) := h18
          clear h18
          subst e18
          refine ask_do rfl fun K hK => ?_
          go_simp
          exact hK _ _ rfl rfl (World.grownBy.refl _ none)
        -- op 3 (slot 20): fieldAddr
        refine MonoR.step (Pv.eq (.pointer (some ⟨g, o + k * 3, none⟩))) [(2, 19)] (by kernel_rfl) (fun w' hw' => ?_) ?_
        · intro x19 h19
          have e19 : x19 = .pointer (some ⟨g, o + k * 3, none⟩) := h19
          clear h19
          subst e19
          refine ask_do rfl fun K hK => ?_
          go_simp
          exact hK _ _ rfl rfl (World.grownBy.refl _ none)
        -- op 4 (slot 21): load
        refine MonoR.step (Pv.eq (.int .i64 a)) [(3, 20)] (by kernel_rfl) (fun w' hw' => ?_) ?_
        · intro x20 h20
          have e20 : x20 = .pointer (some ⟨g, o + k * 3, none⟩) := h20
          clear h20
          subst e20
          refine ask_do rfl fun K hK => ?_
          obtain ⟨l1, l2, l3, l4⟩ := HLD.out w' hw'
          go_simp
          exact hK _ _ rfl rfl (World.grownBy.refl _ none)
        -- op 5 (slot 22): move
        refine MonoR.step (Pv.eq (.int .i64 e)) [] (by kernel_rfl) (fun w' hw' => ?_) ?_
        · refine ask_do rfl fun K hK => ?_
          go_simp
          exact hK _ _ rfl rfl (World.grownBy.refl _ none)
        -- op 6 (slot 23): binOp
        refine MonoR.step (Pv.eq (.bool true)) [(4, 21), (5, 22)] (by kernel_rfl) (fun w' hw' => ?_) ?_
        · intro x21 h21
          intro x22 h22
          have e21 : x21 = .int .i64 a := h21
          clear h21
          subst e21
          have e22 : x22 = .int .i64 e := h22
          clear h22
          subst e22
          refine ask_do rfl fun K hK => ?_
          go_simp
          exact hK _ _ rfl (by show Value.bool _ = Value.bool _; rw [HDA.out]; rfl) (World.grownBy.refl _ none)
        -- op 7 (slot 24): move
        refine MonoR.step (Pv.eq (.bool true)) [(6, 23)] (by kernel_rfl) (fun w' hw' => ?_) ?_
        · intro x23 h23
          have e23 : x23 = .bool true := h23
          clear h23
          subst e23
          refine ask_do rfl fun K hK => ?_
          go_simp
          exact hK _ _ rfl rfl (World.grownBy.refl _ none)
        -- op 8 (slot 25): move [(7, 'true')]
        refine MonoR.step (Pv.eq (.slice (some ⟨g, o, none⟩) n c)) [(7, 24)] (by kernel_rfl) (fun w' hw' => ?_) ?_
        · intro x24 h24
          have e24 : x24 = .bool true := h24
          clear h24
          subst e24
          refine ask_do (by kernel_rfl) fun K hK => ?_
          go_simp
          exact hK _ _ rfl rfl (World.grownBy.refl _ none)
        -- op 9 (slot 26): move [(7, 'true')]
        refine MonoR.step (Pv.eq (.int .i64 (k : Int))) [(7, 24)] (by kernel_rfl) (fun w' hw' => ?_) ?_
        · intro x24 h24
          have e24 : x24 = .bool true := h24
          clear h24
          subst e24
          refine ask_do (by kernel_rfl) fun K hK => ?_
          go_simp
          exact hK _ _ rfl rfl (World.grownBy.refl _ none)
        -- op 10 (slot 27): indexAddr [(7, 'true')]
        refine MonoR.step (Pv.eq (.pointer (some ⟨g, o + k * 3, none⟩))) [(7, 24), (8, 25), (9, 26)] (by kernel_rfl) (fun w' hw' => ?_) ?_
        · intro x24 h24
          intro x25 h25
          intro x26 h26
          have e24 : x24 = .bool true := h24
          clear h24
          subst e24
          have e25 : x25 = .slice (some ⟨g, o, none⟩) n c := h25
          clear h25
          subst e25
          have e26 : x26 = .int .i64 (k : Int) := h26
          clear h26
          subst e26
          refine ask_do (by kernel_rfl) fun K hK => ?_
          go_simp
          exact hK _ _ rfl rfl (World.grownBy.refl _ none)
        -- op 11 (slot 28): fieldAddr [(7, 'true')]
        refine MonoR.step (Pv.eq (.pointer (some ⟨g, o + k * 3 + 1, none⟩))) [(7, 24), (10, 27)] (by kernel_rfl) (fun w' hw' => ?_) ?_
        · intro x24 h24
          intro x27 h27
          have e24 : x24 = .bool true := h24
          clear h24
          subst e24
          have e27 : x27 = .pointer (some ⟨g, o + k * 3, none⟩) := h27
          clear h27
          subst e27
          refine ask_do (by kernel_rfl) fun K hK => ?_
          go_simp
          exact hK _ _ rfl rfl (World.grownBy.refl _ none)
        -- op 12 (slot 29): load [(7, 'true')]
        refine MonoR.step (Pv.eq (.int .i64 b)) [(7, 24), (11, 28)] (by kernel_rfl) (fun w' hw' => ?_) ?_
        · intro x24 h24
          intro x28 h28
          have e24 : x24 = .bool true := h24
          clear h24
          subst e24
          have e28 : x28 = .pointer (some ⟨g, o + k * 3 + 1, none⟩) := h28
          clear h28
          subst e28
          refine ask_do (by kernel_rfl) fun K hK => ?_
          obtain ⟨l1, l2, l3, l4⟩ := HLD.out w' hw'
          go_simp
          exact hK _ _ rfl rfl (World.grownBy.refl _ none)
        -- op 13 (slot 30): move [(7, 'true')]
        refine MonoR.step (Pv.eq (.int .i64 i)) [(7, 24)] (by kernel_rfl) (fun w' hw' => ?_) ?_
        · intro x24 h24
          have e24 : x24 = .bool true := h24
          clear h24
          subst e24
          refine ask_do (by kernel_rfl) fun K hK => ?_
          go_simp
          exact hK _ _ rfl rfl (World.grownBy.refl _ none)
        -- op 14 (slot 31): binOp [(7, 'true')]
        refine MonoR.step (Pv.eq (.bool false)) [(7, 24), (12, 29), (13, 30)] (by kernel_rfl) (fun w' hw' => ?_) ?_
        · intro x24 h24
          intro x29 h29
          intro x30 h30
          have e24 : x24 = .bool true := h24
          clear h24
          subst e24
          have e29 : x29 = .int .i64 b := h29
          clear h29
          subst e29
          have e30 : x30 = .int .i64 i := h30
          clear h30
          subst e30
          refine ask_do (by kernel_rfl) fun K hK => ?_
          go_simp
          exact hK _ _ rfl (by show Value.bool _ = Value.bool _; rw [HDB.out]; rfl) (World.grownBy.refl _ none)
        -- op 15 (slot 32): pick
        refine MonoR.step (Pv.eq (.bool false)) [(7, 24), (14, 31)] (by kernel_rfl) (fun w' hw' => ?_) ?_
        · intro x24 h24
          intro x31 h31
          have e24 : x24 = .bool true := h24
          clear h24
          subst e24
          have e31 : x31 = .bool false := h31
          clear h31
          subst e31
          refine ask_do rfl fun K hK => ?_
          go_simp
          exact hK _ _ rfl rfl (World.grownBy.refl _ none)
        -- op 16 (slot 33): move
        refine MonoR.step (Pv.eq (.bool false)) [(15, 32)] (by kernel_rfl) (fun w' hw' => ?_) ?_
        · intro x32 h32
          have e32 : x32 = .bool false := h32
          clear h32
          subst e32
          refine ask_do rfl fun K hK => ?_
          go_simp
          exact hK _ _ rfl rfl (World.grownBy.refl _ none)
        -- op 17 (slot 34): move [(16, 'true')]
        refine MonoR.step (Pv.eq (undef)) [(16, 33)] (by kernel_rfl) (fun w' hw' => ?_) ?_
        · intro x33 h33
          have e33 : x33 = .bool false := h33
          clear h33
          subst e33
          exact ask_skip rfl rfl rfl
        -- op 18 (slot 35): move [(16, 'true')]
        refine MonoR.step (Pv.eq (undef)) [(16, 33)] (by kernel_rfl) (fun w' hw' => ?_) ?_
        · intro x33 h33
          have e33 : x33 = .bool false := h33
          clear h33
          subst e33
          exact ask_skip rfl rfl rfl
        -- op 19 (slot 36): indexAddr [(16, 'true')]
        refine MonoR.step (Pv.eq (undef)) [(16, 33), (17, 34), (18, 35)] (by kernel_rfl) (fun w' hw' => ?_) ?_
        · intro x33 h33
          intro x34 h34
          intro x35 h35
          have e33 : x33 = .bool false := h33
          clear h33
          subst e33
          have e34 : x34 = undef := h34
          clear h34
          subst e34
          have e35 : x35 = undef := h35
          clear h35
          subst e35
          exact ask_skip rfl rfl rfl
        -- op 20 (slot 37): fieldAddr [(16, 'true')]
        refine MonoR.step (Pv.eq (undef)) [(16, 33), (19, 36)] (by kernel_rfl) (fun w' hw' => ?_) ?_
        · intro x33 h33
          intro x36 h36
          have e33 : x33 = .bool false := h33
          clear h33
          subst e33
          have e36 : x36 = undef := h36
          clear h36
          subst e36
          exact ask_skip rfl rfl rfl
        -- op 21 (slot 38): load [(16, 'true')]
        refine MonoR.step (Pv.eq (undef)) [(16, 33), (20, 37)] (by kernel_rfl) (fun w' hw' => ?_) ?_
        · intro x33 h33
          intro x37 h37
          have e33 : x33 = .bool false := h33
          clear h33
          subst e33
          have e37 : x37 = undef := h37
          clear h37
          subst e37
          exact ask_skip rfl rfl rfl
        -- op 22 (slot 39): call [(16, 'true')]
        refine MonoR.step (Pv.eq (undef)) [(16, 33), (21, 38)] (by kernel_rfl) (fun w' hw' => ?_) ?_
        · intro x33 h33
          intro x38 h38
          have e33 : x33 = .bool false := h33
          clear h33
          subst e33
          have e38 : x38 = undef := h38
          clear h38
          subst e38
          exact ask_skip rfl rfl rfl
        -- op 23 (slot 40): load [(16, 'true')]
        refine MonoR.step (Pv.eq (undef)) [(16, 33)] (by kernel_rfl) (fun w' hw' => ?_) ?_
        · intro x33 h33
          have e33 : x33 = .bool false := h33
          clear h33
          subst e33
          exact ask_skip rfl rfl rfl
        -- op 24 (slot 41): call [(16, 'true')]
        refine MonoR.step (Pv.eq (undef)) [(16, 33), (23, 40)] (by kernel_rfl) (fun w' hw' => ?_) ?_
        · intro x33 h33
          intro x40 h40
          have e33 : x33 = .bool false := h33
          clear h33
          subst e33
          have e40 : x40 = undef := h40
          clear h40
          subst e40
          exact ask_skip rfl rfl rfl
        -- op 25 (slot 42): binOp [(16, 'true')]
        refine MonoR.step (Pv.eq (undef)) [(16, 33), (22, 39), (24, 41)] (by kernel_rfl) (fun w' hw' => ?_) ?_
        · intro x33 h33
          intro x39 h39
          intro x41 h41
          have e33 : x33 = .bool false := h33
          clear h33
          subst e33
          have e39 : x39 = undef := h39
          clear h39
          subst e39
          have e41 : x41 = undef := h41
          clear h41
          subst e41
          exact ask_skip rfl rfl rfl
        -- op 26 (slot 43): pick
        refine MonoR.step (Pv.eq (.bool false)) [(16, 33), (25, 42)] (by kernel_rfl) (fun w' hw' => ?_) ?_
        · intro x33 h33
          intro x42 h42
          have e33 : x33 = .bool false := h33
          clear h33
          subst e33
          have e42 : x42 = undef := h42
          clear h42
          subst e42
          refine ask_do rfl fun K hK => ?_
          go_simp
          exact hK _ _ rfl rfl (World.grownBy.refl _ none)
        
        intro w4 hw4
        intro y0 f0 y1 f1 y2 f2 y3 f3 y4 f4 y5 f5 y6 f6 y7 f7 y8 f8 y9 f9 y10 f10 y11 f11 y12 f12 y13 f13 y14 f14 y15 f15 y16 f16 y17 f17 y18 f18 y19 f19 y20 f20 y21 f21 y22 f22 y23 f23 y24 f24 y25 f25 y26 f26
        have f26 : y26 = .bool false := f26
        subst f26
        have HG4 : Hid (w.grownBy w4 none) := Lib.hid (HG.out.trans (HWR.out.trans hw4))
        have HB4 := Lib.hid (HB.out.grown (HWR.out.trans hw4) (by simp))
        have hld := HLD.out w4 hw4
        clear hld hw4 f0 f1 f2 f3 f4 f5 f6 f7 f8 f9 f10 f11 f12 f13 f14 f15 f16 f17 f18 f19 f20 f21 f22 f23 f24 f25
        simp only [Act.put, List.setIfInBounds_toArray, List.set_cons_zero, List.set_cons_succ]
        refine wpList_nil ?_
        have HFIN : Hid (Bk w4 w.heap.size 24 p.cells ∧ w.grownBy w4 none ∧ ∀ x ∈ l.take (k + 1), isH sc e i x = false) := Lib.hid ⟨HB4.out, HG4.out, HFF.out⟩
        go_wp2_with fail
        go_roundg m
        case measure => omega
        case rel => exact ⟨k + 1, by omega, by go_num, HFIN⟩
      · have HFF : Hid (∀ x ∈ l.take (k + 1), isH sc e i x = false) := Lib.hid (fun x hx => by
          rw [HTK.out] at hx
          rcases List.mem_append.1 hx with hx | hx
          · exact HALLF.out x hx
          · rw [List.mem_singleton.1 hx, HLK.out]
            exact hF L (by rw [HM3.out]))
        subst h1 h2 h3
        clear hF
        go_upto_region 4 with (fail)
        refine wp_region_mono 27 (by kernel_rfl) (by kernel_rfl) ?_
        -- op 0 (slot 17): move
        refine MonoR.step (Pv.eq (.slice (some ⟨g, o, none⟩) n c)) [] (by kernel_rfl) (fun w' hw' => ?_) ?_
        · refine ask_do rfl fun K hK => ?_
          go_simp
          exact hK _ _ rfl rfl (World.grownBy.refl _ none)
        -- op 1 (slot 18): move
        refine MonoR.step (Pv.eq (.int .i64 (k : Int))) [] (by kernel_rfl) (fun w' hw' => ?_) ?_
        · refine ask_do rfl fun K hK => ?_
          go_simp
          exact hK _ _ rfl rfl (World.grownBy.refl _ none)
        -- op 2 (slot 19): indexAddr
        refine MonoR.step (Pv.eq (.pointer (some ⟨g, o + k * 3, none⟩))) [(0, 17), (1, 18)] (by kernel_rfl) (fun w' hw' => ?_) ?_
        · intro x17 h17
          intro x18 h18
          have e17 : x17 = .slice (some ⟨g, o, none⟩) n c := h17
          clear h17
          subst e17
          have e18 : x18 = .int .i64 (k : Int) := h18
          clear h18
          subst e18
          refine ask_do rfl fun K hK => ?_
          go_simp
          exact hK _ _ rfl rfl (World.grownBy.refl _ none)
        -- op 3 (slot 20): fieldAddr
        refine MonoR.step (Pv.eq (.pointer (some ⟨g, o + k * 3, none⟩))) [(2, 19)] (by kernel_rfl) (fun w' hw' => ?_) ?_
        · intro x19 h19
          have e19 : x19 = .pointer (some ⟨g, o + k * 3, none⟩) := h19
          clear h19
          subst e19
          refine ask_do rfl fun K hK => ?_
          go_simp
          exact hK _ _ rfl rfl (World.grownBy.refl _ none)
        -- op 4 (slot 21): load
        refine MonoR.step (Pv.eq (.int .i64 a)) [(3, 20)] (by kernel_rfl) (fun w' hw' => ?_) ?_
        · intro x20 h20
          have e20 : x20 = .pointer (some ⟨g, o + k * 3, none⟩) := h20
          clear h20
          subst e20
          refine ask_do rfl fun K hK => ?_
          obtain ⟨l1, l2, l3, l4⟩ := HLD.out w' hw'
          go_simp
          exact hK _ _ rfl rfl (World.grownBy.refl _ none)
        -- op 5 (slot 22): move
        refine MonoR.step (Pv.eq (.int .i64 e)) [] (by kernel_rfl) (fun w' hw' => ?_) ?_
        · refine ask_do rfl fun K hK => ?_
          go_simp
          exact hK _ _ rfl rfl (World.grownBy.refl _ none)
        -- op 6 (slot 23): binOp
        refine MonoR.step (Pv.eq (.bool true)) [(4, 21), (5, 22)] (by kernel_rfl) (fun w' hw' => ?_) ?_
        · intro x21 h21
          intro x22 h22
          have e21 : x21 = .int .i64 a := h21
          clear h21
          subst e21
          have e22 : x22 = .int .i64 e := h22
          clear h22
          subst e22
          refine ask_do rfl fun K hK => ?_
          go_simp
          exact hK _ _ rfl (by show Value.bool _ = Value.bool _; rw [HDA.out]; rfl) (World.grownBy.refl _ none)
        -- op 7 (slot 24): move
        refine MonoR.step (Pv.eq (.bool true)) [(6, 23)] (by kernel_rfl) (fun w' hw' => ?_) ?_
        · intro x23 h23
          have e23 : x23 = .bool true := h23
          clear h23
          subst e23
          refine ask_do rfl fun K hK => ?_
          go_simp
          exact hK _ _ rfl rfl (World.grownBy.refl _ none)
        -- op 8 (slot 25): move [(7, 'true')]
        refine MonoR.step (Pv.eq (.slice (some ⟨g, o, none⟩) n c)) [(7, 24)] (by kernel_rfl) (fun w' hw' => ?_) ?_
        · intro x24 h24
          have e24 : x24 = .bool true := h24
          clear h24
          subst e24
          refine ask_do (by kernel_rfl) fun K hK => ?_
          go_simp
          exact hK _ _ rfl rfl (World.grownBy.refl _ none)
        -- op 9 (slot 26): move [(7, 'true')]
        refine MonoR.step (Pv.eq (.int .i64 (k : Int))) [(7, 24)] (by kernel_rfl) (fun w' hw' => ?_) ?_
        · intro x24 h24
          have e24 : x24 = .bool true := h24
          clear h24
          subst e24
          refine ask_do (by kernel_rfl) fun K hK => ?_
          go_simp
          exact hK _ _ rfl rfl (World.grownBy.refl _ none)
        -- op 10 (slot 27): indexAddr [(7, 'true')]
        refine MonoR.step (Pv.eq (.pointer (some ⟨g, o + k * 3, none⟩))) [(7, 24), (8, 25), (9, 26)] (by kernel_rfl) (fun w' hw' => ?_) ?_
        · intro x24 h24
          intro x25 h25
          intro x26 h26
          have e24 : x24 = .bool true := h24
          clear h24
          subst e24
          have e25 : x25 = .slice (some ⟨g, o, none⟩) n c := h25
          clear h25
          subst e25
          have e26 : x26 = .int .i64 (k : Int) := h26
          clear h26
          subst e26
          refine ask_do (by kernel_rfl) fun K hK => ?_
          go_simp
          exact hK _ _ rfl rfl (World.grownBy.refl _ none)
        -- op 11 (slot 28): fieldAddr [(7, 'true')]
        refine MonoR.step (Pv.eq (.pointer (some ⟨g, o + k * 3 + 1, none⟩))) [(7, 24), (10, 27)] (by kernel_rfl) (fun w' hw' => ?_) ?_
        · intro x24 h24
          intro x27 h27
          have e24 : x24 = .bool true := h24
          clear h24
          subst e24
          have e27 : x27 = .pointer (some ⟨g, o + k * 3, none⟩) := h27
          clear h27
          subst e27
          refine ask_do (by kernel_rfl) fun K hK => ?_
          go_simp
          exact hK _ _ rfl rfl (World.grownBy.refl _ none)
        -- op 12 (slot 29): load [(7, 'true')]
        refine MonoR.step (Pv.eq (.int .i64 b)) [(7, 24), (11, 28)] (by kernel_rfl) (fun w' hw' => ?_) ?_
        · intro x24 h24
          intro x28 h28
          have e24 : x24 = .bool true := h24
          clear h24
          subst e24
          have e28 : x28 = .pointer (some ⟨g, o + k * 3 + 1, none⟩) := h28
          clear h28
          subst e28
          refine ask_do (by kernel_rfl) fun K hK => ?_
          obtain ⟨l1, l2, l3, l4⟩ := HLD.out w' hw'
          go_simp
          exact hK _ _ rfl rfl (World.grownBy.refl _ none)
        -- op 13 (slot 30): move [(7, 'true')]
        refine MonoR.step (Pv.eq (.int .i64 i)) [(7, 24)] (by kernel_rfl) (fun w' hw' => ?_) ?_
        · intro x24 h24
          have e24 : x24 = .bool true := h24
          clear h24
          subst e24
          refine ask_do (by kernel_rfl) fun K hK => ?_
          go_simp
          exact hK _ _ rfl rfl (World.grownBy.refl _ none)
        -- op 14 (slot 31): binOp [(7, 'true')]
        refine MonoR.step (Pv.eq (.bool true)) [(7, 24), (12, 29), (13, 30)] (by kernel_rfl) (fun w' hw' => ?_) ?_
        · intro x24 h24
          intro x29 h29
          intro x30 h30
          have e24 : x24 = .bool true := h24
          clear h24
          subst e24
          have e29 : x29 = .int .i64 b := h29
          clear h29
          subst e29
          have e30 : x30 = .int .i64 i := h30
          clear h30
          subst e30
          refine ask_do (by kernel_rfl) fun K hK => ?_
          go_simp
          exact hK _ _ rfl (by show Value.bool _ = Value.bool _; rw [HDB.out]; rfl) (World.grownBy.refl _ none)
        -- op 15 (slot 32): pick
        refine MonoR.step (Pv.eq (.bool true)) [(7, 24), (14, 31)] (by kernel_rfl) (fun w' hw' => ?_) ?_
        · intro x24 h24
          intro x31 h31
          have e24 : x24 = .bool true := h24
          clear h24
          subst e24
          have e31 : x31 = .bool true := h31
          clear h31
          subst e31
          refine ask_do rfl fun K hK => ?_
          go_simp
          exact hK _ _ rfl rfl (World.grownBy.refl _ none)
        -- op 16 (slot 33): move
        refine MonoR.step (Pv.eq (.bool true)) [(15, 32)] (by kernel_rfl) (fun w' hw' => ?_) ?_
        · intro x32 h32
          have e32 : x32 = .bool true := h32
          clear h32
          subst e32
          refine ask_do rfl fun K hK => ?_
          go_simp
          exact hK _ _ rfl rfl (World.grownBy.refl _ none)
        -- op 17 (slot 34): move [(16, 'true')]
        refine MonoR.step (Pv.eq (.slice (some ⟨g, o, none⟩) n c)) [(16, 33)] (by kernel_rfl) (fun w' hw' => ?_) ?_
        · intro x33 h33
          have e33 : x33 = .bool true := h33
          clear h33
          subst e33
          refine ask_do (by kernel_rfl) fun K hK => ?_
          go_simp
          exact hK _ _ rfl rfl (World.grownBy.refl _ none)
        -- op 18 (slot 35): move [(16, 'true')]
        refine MonoR.step (Pv.eq (.int .i64 (k : Int))) [(16, 33)] (by kernel_rfl) (fun w' hw' => ?_) ?_
        · intro x33 h33
          have e33 : x33 = .bool true := h33
          clear h33
          subst e33
          refine ask_do (by kernel_rfl) fun K hK => ?_
          go_simp
          exact hK _ _ rfl rfl (World.grownBy.refl _ none)
        -- op 19 (slot 36): indexAddr [(16, 'true')]
        refine MonoR.step (Pv.eq (.pointer (some ⟨g, o + k * 3, none⟩))) [(16, 33), (17, 34), (18, 35)] (by kernel_rfl) (fun w' hw' => ?_) ?_
        · intro x33 h33
          intro x34 h34
          intro x35 h35
          have e33 : x33 = .bool true := h33
          clear h33
          subst e33
          have e34 : x34 = .slice (some ⟨g, o, none⟩) n c := h34
          clear h34
          subst e34
          have e35 : x35 = .int .i64 (k : Int) := h35
          clear h35
          subst e35
          refine ask_do (by kernel_rfl) fun K hK => ?_
          go_simp
          exact hK _ _ rfl rfl (World.grownBy.refl _ none)
        -- op 20 (slot 37): fieldAddr [(16, 'true')]
        refine MonoR.step (Pv.eq (.pointer (some ⟨g, o + k * 3 + 2, none⟩))) [(16, 33), (19, 36)] (by kernel_rfl) (fun w' hw' => ?_) ?_
        · intro x33 h33
          intro x36 h36
          have e33 : x33 = .bool true := h33
          clear h33
          subst e33
          have e36 : x36 = .pointer (some ⟨g, o + k * 3, none⟩) := h36
          clear h36
          subst e36
          refine ask_do (by kernel_rfl) fun K hK => ?_
          go_simp
          exact hK _ _ rfl rfl (World.grownBy.refl _ none)
        -- op 21 (slot 38): load [(16, 'true')]
        refine MonoR.step (Pv.eq (.slice A3 m3 c3)) [(16, 33), (20, 37)] (by kernel_rfl) (fun w' hw' => ?_) ?_
        · intro x33 h33
          intro x37 h37
          have e33 : x33 = .bool true := h33
          clear h33
          subst e33
          have e37 : x37 = .pointer (some ⟨g, o + k * 3 + 2, none⟩) := h37
          clear h37
          subst e37
          refine ask_do (by kernel_rfl) fun K hK => ?_
          obtain ⟨l1, l2, l3, l4⟩ := HLD.out w' hw'
          go_simp
          exact hK _ _ rfl rfl (World.grownBy.refl _ none)
        -- op 22 (slot 39): call [(16, 'true')]
        refine MonoR.step (Pv.eq (.int .i64 (m3 : Int))) [(16, 33), (21, 38)] (by kernel_rfl) (fun w' hw' => ?_) ?_
        · intro x33 h33
          intro x38 h38
          have e33 : x33 = .bool true := h33
          clear h33
          subst e33
          have e38 : x38 = .slice A3 m3 c3 := h38
          clear h38
          subst e38
          refine ask_do (by kernel_rfl) fun K hK => ?_
          go_simp
          exact hK _ _ rfl rfl (World.grownBy.refl _ none)
        -- op 23 (slot 40): load [(16, 'true')]
        refine MonoR.step (Pv.eq (p.v)) [(16, 33)] (by kernel_rfl) (fun w' hw' => ?_) ?_
        · intro x33 h33
          have e33 : x33 = .bool true := h33
          clear h33
          subst e33
          refine ask_do (by kernel_rfl) fun K hK => ?_
          obtain ⟨l1, l2, l3, l4⟩ := HLD.out w' hw'
          go_simp
          exact hK _ _ rfl rfl (World.grownBy.refl _ none)
        -- op 24 (slot 41): call [(16, 'true')]
        refine MonoR.step (Pv.eq (.int .i64 sc)) [(16, 33), (23, 40)] (by kernel_rfl) (fun w' hw' => ?_) ?_
        · intro x33 h33
          intro x40 h40
          have e33 : x33 = .bool true := h33
          clear h33
          subst e33
          have e40 : x40 = p.v := h40
          clear h40
          subst e40
          refine ask_do (by kernel_rfl) fun K hK => ?_
          go_simp
          refine (HSE.out w').mono ?_
          rintro e w4 ⟨rfl, hg⟩
          exact hK _ _ rfl rfl hg
        -- op 25 (slot 42): binOp [(16, 'true')]
        refine MonoR.step (Pv.eq (.bool false)) [(16, 33), (22, 39), (24, 41)] (by kernel_rfl) (fun w' hw' => ?_) ?_
        · intro x33 h33
          intro x39 h39
          intro x41 h41
          have e33 : x33 = .bool true := h33
          clear h33
          subst e33
          have e39 : x39 = .int .i64 (m3 : Int) := h39
          clear h39
          subst e39
          have e41 : x41 = .int .i64 sc := h41
          clear h41
          subst e41
          refine ask_do (by kernel_rfl) fun K hK => ?_
          go_simp
          exact hK _ _ rfl (by show Value.bool _ = Value.bool _; rw [HDC.out]; rfl) (World.grownBy.refl _ none)
        -- op 26 (slot 43): pick
        refine MonoR.step (Pv.eq (.bool false)) [(16, 33), (25, 42)] (by kernel_rfl) (fun w' hw' => ?_) ?_
        · intro x33 h33
          intro x42 h42
          have e33 : x33 = .bool true := h33
          clear h33
          subst e33
          have e42 : x42 = .bool false := h42
          clear h42
          subst e42
          refine ask_do rfl fun K hK => ?_
          go_simp
          exact hK _ _ rfl rfl (World.grownBy.refl _ none)
        
        intro w4 hw4
        intro y0 f0 y1 f1 y2 f2 y3 f3 y4 f4 y5 f5 y6 f6 y7 f7 y8 f8 y9 f9 y10 f10 y11 f11 y12 f12 y13 f13 y14 f14 y15 f15 y16 f16 y17 f17 y18 f18 y19 f19 y20 f20 y21 f21 y22 f22 y23 f23 y24 f24 y25 f25 y26 f26
        have f26 : y26 = .bool false := f26
        subst f26
        have HG4 : Hid (w.grownBy w4 none) := Lib.hid (HG.out.trans (HWR.out.trans hw4))
        have HB4 := Lib.hid (HB.out.grown (HWR.out.trans hw4) (by simp))
        have hld := HLD.out w4 hw4
        clear hld hw4 f0 f1 f2 f3 f4 f5 f6 f7 f8 f9 f10 f11 f12 f13 f14 f15 f16 f17 f18 f19 f20 f21 f22 f23 f24 f25
        simp only [Act.put, List.setIfInBounds_toArray, List.set_cons_zero, List.set_cons_succ]
        refine wpList_nil ?_
        have HFIN : Hid (Bk w4 w.heap.size 24 p.cells ∧ w.grownBy w4 none ∧ ∀ x ∈ l.take (k + 1), isH sc e i x = false) := Lib.hid ⟨HB4.out, HG4.out, HFF.out⟩
        go_wp2_with fail
        go_roundg m
        case measure => omega
        case rel => exact ⟨k + 1, by omega, by go_num, HFIN⟩
      · have HV : Hid (R = some L) := Lib.hid (by
          rw [HR.out, atO_at HKL.out HALLF.out (by rw [HLK.out]; exact hF L (by rw [HM3.out])), HLK.out])
        subst h1 h2 h3
        clear hF
        go_upto_region 4 with (fail)
        refine wp_region_mono 27 (by kernel_rfl) (by kernel_rfl) ?_
        -- op 0 (slot 17): move
        refine MonoR.step (Pv.eq (.slice (some ⟨g, o, none⟩) n c)) [] (by kernel_rfl) (fun w' hw' => ?_) ?_
        · refine ask_do rfl fun K hK => ?_
          go_simp
          exact hK _ _ rfl rfl (World.grownBy.refl _ none)
        -- op 1 (slot 18): move
        refine MonoR.step (Pv.eq (.int .i64 (k : Int))) [] (by kernel_rfl) (fun w' hw' => ?_) ?_
        · refine ask_do rfl fun K hK => ?_
          go_simp
          exact hK _ _ rfl rfl (World.grownBy.refl _ none)
        -- op 2 (slot 19): indexAddr
        refine MonoR.step (Pv.eq (.pointer (some ⟨g, o + k * 3, none⟩))) [(0, 17), (1, 18)] (by kernel_rfl) (fun w' hw' => ?_) ?_
        · intro x17 h17
          intro x18 h18
          have e17 : x17 = .slice (some ⟨g, o, none⟩) n c := h17
          clear h17
          subst e17
          have e18 : x18 = .int .i64 (k : Int) := h18
          clear h18
          subst e18
          refine ask_do rfl fun K hK => ?_
          go_simp
          exact hK _ _ rfl rfl (World.grownBy.refl _ none)
        -- op 3 (slot 20): fieldAddr
        refine MonoR.step (Pv.eq (.pointer (some ⟨g, o + k * 3, none⟩))) [(2, 19)] (by kernel_rfl) (fun w' hw' => ?_) ?_
        · intro x19 h19
          have e19 : x19 = .pointer (some ⟨g, o + k * 3, none⟩) := h19
          clear h19
          subst e19
          refine ask_do rfl fun K hK => ?_
          go_simp
          exact hK _ _ rfl rfl (World.grownBy.refl _ none)
        -- op 4 (slot 21): load
        refine MonoR.step (Pv.eq (.int .i64 a)) [(3, 20)] (by kernel_rfl) (fun w' hw' => ?_) ?_
        · intro x20 h20
          have e20 : x20 = .pointer (some ⟨g, o + k * 3, none⟩) := h20
          clear h20
          subst e20
          refine ask_do rfl fun K hK => ?_
          obtain ⟨l1, l2, l3, l4⟩ := HLD.out w' hw'
          go_simp
          exact hK _ _ rfl rfl (World.grownBy.refl _ none)
        -- op 5 (slot 22): move
        refine MonoR.step (Pv.eq (.int .i64 e)) [] (by kernel_rfl) (fun w' hw' => ?_) ?_
        · refine ask_do rfl fun K hK => ?_
          go_simp
          exact hK _ _ rfl rfl (World.grownBy.refl _ none)
        -- op 6 (slot 23): binOp
        refine MonoR.step (Pv.eq (.bool true)) [(4, 21), (5, 22)] (by kernel_rfl) (fun w' hw' => ?_) ?_
        · intro x21 h21
          intro x22 h22
          have e21 : x21 = .int .i64 a := h21
          clear h21
          subst e21
          have e22 : x22 = .int .i64 e := h22
          clear h22
          subst e22
          refine ask_do rfl fun K hK => ?_
          go_simp
          exact hK _ _ rfl (by show Value.bool _ = Value.bool _; rw [HDA.out]; rfl) (World.grownBy.refl _ none)
        -- op 7 (slot 24): move
        refine MonoR.step (Pv.eq (.bool true)) [(6, 23)] (by kernel_rfl) (fun w' hw' => ?_) ?_
        · intro x23 h23
          have e23 : x23 = .bool true := h23
          clear h23
          subst e23
          refine ask_do rfl fun K hK => ?_
          go_simp
          exact hK _ _ rfl rfl (World.grownBy.refl _ none)
        -- op 8 (slot 25): move [(7, 'true')]
        refine MonoR.step (Pv.eq (.slice (some ⟨g, o, none⟩) n c)) [(7, 24)] (by kernel_rfl) (fun w' hw' => ?_) ?_
        · intro x24 h24
          have e24 : x24 = .bool true := h24
          clear h24
          subst e24
          refine ask_do (by kernel_rfl) fun K hK => ?_
          go_simp
          exact hK _ _ rfl rfl (World.grownBy.refl _ none)
        -- op 9 (slot 26): move [(7, 'true')]
        refine MonoR.step (Pv.eq (.int .i64 (k : Int))) [(7, 24)] (by kernel_rfl) (fun w' hw' => ?_) ?_
        · intro x24 h24
          have e24 : x24 = .bool true := h24
          clear h24
          subst e24
          refine ask_do (by kernel_rfl) fun K hK => ?_
          go_simp
          exact hK _ _ rfl rfl (World.grownBy.refl _ none)
        -- op 10 (slot 27): indexAddr [(7, 'true')]
        refine MonoR.step (Pv.eq (.pointer (some ⟨g, o + k * 3, none⟩))) [(7, 24), (8, 25), (9, 26)] (by kernel_rfl) (fun w' hw' => ?_) ?_
        · intro x24 h24
          intro x25 h25
          intro x26 h26
          have e24 : x24 = .bool true := h24
          clear h24
          subst e24
          have e25 : x25 = .slice (some ⟨g, o, none⟩) n c := h25
          clear h25
          subst e25
          have e26 : x26 = .int .i64 (k : Int) := h26
          clear h26
          subst e26
          refine ask_do (by kernel_rfl) fun K hK => ?_
          go_simp
          exact hK _ _ rfl rfl (World.grownBy.refl _ none)
        -- op 11 (slot 28): fieldAddr [(7, 'true')]
        refine MonoR.step (Pv.eq (.pointer (some ⟨g, o + k * 3 + 1, none⟩))) [(7, 24), (10, 27)] (by kernel_rfl) (fun w' hw' => ?_) ?_
        · intro x24 h24
          intro x27 h27
          have e24 : x24 = .bool true := h24
          clear h24
          subst e24
          have e27 : x27 = .pointer (some ⟨g, o + k * 3, none⟩) := h27
          clear h27
          subst e27
          refine ask_do (by kernel_rfl) fun K hK => ?_
          go_simp
          exact hK _ _ rfl rfl (World.grownBy.refl _ none)
        -- op 12 (slot 29): load [(7, 'true')]
        refine MonoR.step (Pv.eq (.int .i64 b)) [(7, 24), (11, 28)] (by kernel_rfl) (fun w' hw' => ?_) ?_
        · intro x24 h24
          intro x28 h28
          have e24 : x24 = .bool true := h24
          clear h24
          subst e24
          have e28 : x28 = .pointer (some ⟨g, o + k * 3 + 1, none⟩) := h28
          clear h28
          subst e28
          refine ask_do (by kernel_rfl) fun K hK => ?_
          obtain ⟨l1, l2, l3, l4⟩ := HLD.out w' hw'
          go_simp
          exact hK _ _ rfl rfl (World.grownBy.refl _ none)
        -- op 13 (slot 30): move [(7, 'true')]
        refine MonoR.step (Pv.eq (.int .i64 i)) [(7, 24)] (by kernel_rfl) (fun w' hw' => ?_) ?_
        · intro x24 h24
          have e24 : x24 = .bool true := h24
          clear h24
          subst e24
          refine ask_do (by kernel_rfl) fun K hK => ?_
          go_simp
          exact hK _ _ rfl rfl (World.grownBy.refl _ none)
        -- op 14 (slot 31): binOp [(7, 'true')]
        refine MonoR.step (Pv.eq (.bool true)) [(7, 24), (12, 29), (13, 30)] (by kernel_rfl) (fun w' hw' => ?_) ?_
        · intro x24 h24
          intro x29 h29
          intro x30 h30
          have e24 : x24 = .bool true := h24
          clear h24
          subst e24
          have e29 : x29 = .int .i64 b := h29
          clear h29
          subst e29
          have e30 : x30 = .int .i64 i := h30
          clear h30
          subst e30
          refine ask_do (by kernel_rfl) fun K hK => ?_
          go_simp
          exact hK _ _ rfl (by show Value.bool _ = Value.bool _; rw [HDB.out]; rfl) (World.grownBy.refl _ none)
        -- op 15 (slot 32): pick
        refine MonoR.step (Pv.eq (.bool true)) [(7, 24), (14, 31)] (by kernel_rfl) (fun w' hw' => ?_) ?_
        · intro x24 h24
          intro x31 h31
          have e24 : x24 = .bool true := h24
          clear h24
          subst e24
          have e31 : x31 = .bool true := h31
          clear h31
          subst e31
          refine ask_do rfl fun K hK => ?_
          go_simp
          exact hK _ _ rfl rfl (World.grownBy.refl _ none)
        -- op 16 (slot 33): move
        refine MonoR.step (Pv.eq (.bool true)) [(15, 32)] (by kernel_rfl) (fun w' hw' => ?_) ?_
        · intro x32 h32
          have e32 : x32 = .bool true := h32
          clear h32
          subst e32
          refine ask_do rfl fun K hK => ?_
          go_simp
          exact hK _ _ rfl rfl (World.grownBy.refl _ none)
        -- op 17 (slot 34): move [(16, 'true')]
        refine MonoR.step (Pv.eq (.slice (some ⟨g, o, none⟩) n c)) [(16, 33)] (by kernel_rfl) (fun w' hw' => ?_) ?_
        · intro x33 h33
          have e33 : x33 = .bool true := h33
          clear h33
          subst e33
          refine ask_do (by kernel_rfl) fun K hK => ?_
          go_simp
          exact hK _ _ rfl rfl (World.grownBy.refl _ none)
        -- op 18 (slot 35): move [(16, 'true')]
        refine MonoR.step (Pv.eq (.int .i64 (k : Int))) [(16, 33)] (by kernel_rfl) (fun w' hw' => ?_) ?_
        · intro x33 h33
          have e33 : x33 = .bool true := h33
          clear h33
          subst e33
          refine ask_do (by kernel_rfl) fun K hK => ?_
          go_simp
          exact hK _ _ rfl rfl (World.grownBy.refl _ none)
        -- op 19 (slot 36): indexAddr [(16, 'true')]
        refine MonoR.step (Pv.eq (.pointer (some ⟨g, o + k * 3, none⟩))) [(16, 33), (17, 34), (18, 35)] (by kernel_rfl) (fun w' hw' => ?_) ?_
        · intro x33 h33
          intro x34 h34
          intro x35 h35
          have e33 : x33 = .bool true := h33
          clear h33
          subst e33
          have e34 : x34 = .slice (some ⟨g, o, none⟩) n c := h34
          clear h34
          subst e34
          have e35 : x35 = .int .i64 (k : Int) := h35
          clear h35
          subst e35
          refine ask_do (by kernel_rfl) fun K hK => ?_
          go_simp
          exact hK _ _ rfl rfl (World.grownBy.refl _ none)
        -- op 20 (slot 37): fieldAddr [(16, 'true')]
        refine MonoR.step (Pv.eq (.pointer (some ⟨g, o + k * 3 + 2, none⟩))) [(16, 33), (19, 36)] (by kernel_rfl) (fun w' hw' => ?_) ?_
        · intro x33 h33
          intro x36 h36
          have e33 : x33 = .bool true := h33
          clear h33
          subst e33
          have e36 : x36 = .pointer (some ⟨g, o + k * 3, none⟩) := h36
          clear h36
          subst e36
          refine ask_do (by kernel_rfl) fun K hK => ?_
          go_simp
          exact hK _ _ rfl rfl (World.grownBy.refl _ none)
        -- op 21 (slot 38): load [(16, 'true')]
        refine MonoR.step (Pv.eq (.slice A3 m3 c3)) [(16, 33), (20, 37)] (by kernel_rfl) (fun w' hw' => ?_) ?_
        · intro x33 h33
          intro x37 h37
          have e33 : x33 = .bool true := h33
          clear h33
          subst e33
          have e37 : x37 = .pointer (some ⟨g, o + k * 3 + 2, none⟩) := h37
          clear h37
          subst e37
          refine ask_do (by kernel_rfl) fun K hK => ?_
          obtain ⟨l1, l2, l3, l4⟩ := HLD.out w' hw'
          go_simp
          exact hK _ _ rfl rfl (World.grownBy.refl _ none)
        -- op 22 (slot 39): call [(16, 'true')]
        refine MonoR.step (Pv.eq (.int .i64 (m3 : Int))) [(16, 33), (21, 38)] (by kernel_rfl) (fun w' hw' => ?_) ?_
        · intro x33 h33
          intro x38 h38
          have e33 : x33 = .bool true := h33
          clear h33
          subst e33
          have e38 : x38 = .slice A3 m3 c3 := h38
          clear h38
          subst e38
          refine ask_do (by kernel_rfl) fun K hK => ?_
          go_simp
          exact hK _ _ rfl rfl (World.grownBy.refl _ none)
        -- op 23 (slot 40): load [(16, 'true')]
        refine MonoR.step (Pv.eq (p.v)) [(16, 33)] (by kernel_rfl) (fun w' hw' => ?_) ?_
        · intro x33 h33
          have e33 : x33 = .bool true := h33
          clear h33
          subst e33
          refine ask_do (by kernel_rfl) fun K hK => ?_
          obtain ⟨l1, l2, l3, l4⟩ := HLD.out w' hw'
          go_simp
          exact hK _ _ rfl rfl (World.grownBy.refl _ none)
        -- op 24 (slot 41): call [(16, 'true')]
        refine MonoR.step (Pv.eq (.int .i64 sc)) [(16, 33), (23, 40)] (by kernel_rfl) (fun w' hw' => ?_) ?_
        · intro x33 h33
          intro x40 h40
          have e33 : x33 = .bool true := h33
          clear h33
          subst e33
          have e40 : x40 = p.v := h40
          clear h40
          subst e40
          refine ask_do (by kernel_rfl) fun K hK => ?_
          go_simp
          refine (HSE.out w').mono ?_
          rintro e w4 ⟨rfl, hg⟩
          exact hK _ _ rfl rfl hg
        -- op 25 (slot 42): binOp [(16, 'true')]
        refine MonoR.step (Pv.eq (.bool true)) [(16, 33), (22, 39), (24, 41)] (by kernel_rfl) (fun w' hw' => ?_) ?_
        · intro x33 h33
          intro x39 h39
          intro x41 h41
          have e33 : x33 = .bool true := h33
          clear h33
          subst e33
          have e39 : x39 = .int .i64 (m3 : Int) := h39
          clear h39
          subst e39
          have e41 : x41 = .int .i64 sc := h41
          clear h41
          subst e41
          refine ask_do (by kernel_rfl) fun K hK => ?_
          go_simp
          exact hK _ _ rfl (by show Value.bool _ = Value.bool _; rw [HDC.out]; rfl) (World.grownBy.refl _ none)
        -- op 26 (slot 43): pick
        refine MonoR.step (Pv.eq (.bool true)) [(16, 33), (25, 42)] (by kernel_rfl) (fun w' hw' => ?_) ?_
        · intro x33 h33
          intro x42 h42
          have e33 : x33 = .bool true := h33
          clear h33
          subst e33
          have e42 : x42 = .bool true := h42
          clear h42
          subst e42
          refine ask_do rfl fun K hK => ?_
          go_simp
          exact hK _ _ rfl rfl (World.grownBy.refl _ none)
        
        intro w4 hw4
        intro y0 f0 y1 f1 y2 f2 y3 f3 y4 f4 y5 f5 y6 f6 y7 f7 y8 f8 y9 f9 y10 f10 y11 f11 y12 f12 y13 f13 y14 f14 y15 f15 y16 f16 y17 f17 y18 f18 y19 f19 y20 f20 y21 f21 y22 f22 y23 f23 y24 f24 y25 f25 y26 f26
        have f26 : y26 = .bool true := f26
        subst f26
        have HG4 : Hid (w.grownBy w4 none) := Lib.hid (HG.out.trans (HWR.out.trans hw4))
        have HB4 := Lib.hid (HB.out.grown (HWR.out.trans hw4) (by simp))
        have hld := HLD.out w4 hw4
        have q1 := hld.2.2.1
        have HS4 : Hid (Sl encP X w4 (.slice A3 m3 c3) L) := Lib.hid (HSU.out.kept (HWR.out.trans hw4))
        clear hld hw4 f0 f1 f2 f3 f4 f5 f6 f7 f8 f9 f10 f11 f12 f13 f14 f15 f16 f17 f18 f19 f20 f21 f22 f23 f24 f25
        simp only [Act.put, List.setIfInBounds_toArray, List.set_cons_zero, List.set_cons_succ]
        refine wpList_nil ?_
        go_wp2
        go_ret2
        exact ⟨⟨_, by rw [HV.out]; rfl, by rw [HV.out]; exact HS4.out⟩, HG4.out⟩
end Go.Proofs.YtlhjbllfcbojmaaDoor

namespace Go.Proofs.YtlhjbllfcbojmaaDoor
open Go Go.RowKit Go.Shelf

theorem putH_zero (s : Int) (t : Nat → Hold) (h : HH) (i : Nat) (h0 : t 0 i = none) : putH s t h 0 i = none := by
  unfold putH
  split
  · rename_i hc
    dsimp only
    rw [if_neg (fun e => by have := e.1; omega)]
    exact h0
  · exact h0
theorem tbl_zero' (s : Int) (i : Nat) : ∀ (l : List HH) (t : Nat → Hold), t 0 i = none → (l.foldl (putH s) t) 0 i = none
  | [], _, h => h
  | x :: l, t, h => tbl_zero' s i l _ (putH_zero s t x i h)
theorem tbl_zero (s : Int) (l : List HH) (i : Nat) : tblI s l 0 i = none := tbl_zero' s i l _ rfl
theorem isH_iff {s e i : Int} {h : HH} : isH s e i h = true ↔ h.1 = e ∧ h.2.1 = i ∧ (h.2.2.length : Int) = s := by
  simp [isH, and_assoc]
theorem atO_cons (s e i : Int) (h : HH) (l : List HH) : atO s (h :: l) e i = if isH s e i h = true then some h.2.2 else atO s l e i := by
  unfold atO
  rw [List.find?_cons]
  cases isH s e i h <;> rfl
theorem putH_at (s : Int) (t : Nat → Hold) (h : HH) (e i : Nat) (he : 1 ≤ e ∧ e ≤ 64) (hi : 1 ≤ i ∧ i ≤ 7) : putH s t h e i = (t e i).or (if isH s e i h = true then some h.2.2 else none) := by
  cases ht : t e i with
  | some x =>
    unfold putH
    split
    · rename_i hc
      dsimp only
      rw [if_neg, ht]
      · rfl
      · rintro ⟨e1, e2⟩
        rw [← e1, ← e2, ht] at hc
        exact absurd hc.2.2.2.2.2 (by simp)
    · rw [ht]; rfl
  | none =>
    by_cases hh : isH s e i h = true
    · rw [if_pos hh]
      obtain ⟨h1, h2, h3⟩ := isH_iff.1 hh
      have e1 : h.1.toNat = e := by omega
      have e2 : h.2.1.toNat = i := by omega
      unfold putH
      rw [if_pos ⟨by omega, by omega, by omega, by omega, h3, by rw [e1, e2, ht]⟩]
      try dsimp only
      rw [if_pos ⟨e1.symm, e2.symm⟩]
      rfl
    · rw [if_neg hh]
      unfold putH
      split
      · rename_i hc
        try dsimp only
        rw [if_neg, ht]
        · rfl
        · rintro ⟨e1, e2⟩
          exact hh (isH_iff.2 ⟨by omega, by omega, hc.2.2.2.2.1⟩)
      · rw [ht]; rfl
theorem tbl_at' (s : Int) (e i : Nat) (he : 1 ≤ e ∧ e ≤ 64) (hi : 1 ≤ i ∧ i ≤ 7) : ∀ (l : List HH) (t : Nat → Hold), (l.foldl (putH s) t) e i = (t e i).or (atO s l e i)
  | [], t => by simp [atO]
  | h :: l, t => by
    rw [List.foldl_cons, tbl_at' s e i he hi l, putH_at s t h e i he hi, atO_cons]
    cases t e i with
    | some x => rfl
    | none => cases isH s e i h <;> simp
theorem tbl_at (s : Int) (l : List HH) (e i : Nat) (he : 1 ≤ e ∧ e ≤ 64) (hi : 1 ≤ i ∧ i ≤ 7) : tblI s l e i = atO s l e i := by
  unfold tblI
  rw [tbl_at' s e i he hi l]
  rfl
theorem haveO_pick (h : Hold) : ∀ set : List Int, haveO h set = if (set.filterMap fun i => h i.toNat).length = set.length then some (set.filterMap fun i => h i.toNat) else none
  | [] => rfl
  | i :: l => by
    unfold haveO
    rw [haveO_pick h l]
    cases hi : h i.toNat with
    | none =>
      dsimp only
      rw [List.filterMap_cons_none (by exact hi), if_neg]
      have := List.length_filterMap_le (fun i : Int => h i.toNat) l
      simp
      omega
    | some x =>
      dsimp only
      rw [List.filterMap_cons_some (by exact hi)]
      simp only [List.length_cons, Nat.add_right_cancel_iff]
      split <;> rfl
/-- The share of an epoch at an index, as a member's number. -/
def pickF (s : Int) (l : List HH) (e : Nat) (i : Int) : Option (List (Int × Int)) := atO s l e i
theorem fm_congr {α β : Type} {f g : α → Option β} : ∀ {l : List α}, (∀ x ∈ l, f x = g x) → l.filterMap f = l.filterMap g
  | [], _ => rfl
  | x :: l, h => by
    have e := h x (by simp)
    have r := fm_congr (l := l) fun y hy => h y (List.mem_cons_of_mem _ hy)
    cases hg : g x with
    | none => rw [List.filterMap_cons_none (by rw [e, hg]), List.filterMap_cons_none hg, r]
    | some y => rw [List.filterMap_cons_some (by rw [e, hg]), List.filterMap_cons_some hg, r]
theorem offSet_ref (p : Par) (op : List (Int × Int)) (sc : Int) (l : List HH) (e : Nat) (he : 1 ≤ e ∧ e ≤ 64) (set : List Int) (hs : ∀ i ∈ set, 1 ≤ i ∧ i ≤ 7) :
    offSet p op (tblI sc l e) set = if (set.filterMap (pickF sc l e)).length = set.length then firstOff p (sumL p set (set.filterMap (pickF sc l e))) op else none := by
  have e1 : set.filterMap (fun i => tblI sc l e i.toNat) = set.filterMap (pickF sc l e) := by
    refine fm_congr fun i hi => ?_
    have h1 := hs i hi
    have h2 : ((i.toNat : Nat) : Int) = i := by omega
    rw [tbl_at sc l e i.toNat he (by omega), h2]
    rfl
  unfold offSet
  rw [haveO_pick, e1]
  split
  · split <;> simp_all
  · split <;> simp_all
theorem offRow_zero (p : Par) (op : List (Int × Int)) (sc : Int) (l : List HH) (k f : Nat) : offRow p op (tblI sc l 0) (setsI (k + 1) f) = none := by
  refine find_none _ fun set hset => ?_
  have h1 := (sets_ok (k + 1) f set hset).1
  cases set with
  | nil => simp at h1
  | cons i r =>
    unfold offSet haveO
    rw [tbl_zero]
theorem find_at {α β : Type} {f : α → Option β} {r : β} {l : List α} {k : Nat} (hk : k < l.length) (h0 : (l.take k).findSome? f = none) (h1 : f l[k] = some r) : l.findSome? f = some r := by
  have e : l = l.take k ++ l[k] :: l.drop (k + 1) := by rw [List.getElem_cons_drop, List.take_append_drop]
  rw [e, List.findSome?_append, h0, List.findSome?_cons, h1]
  rfl
theorem find_up {α β : Type} {f : α → Option β} {l : List α} {k : Nat} (hk : k < l.length) (h0 : (l.take k).findSome? f = none) (h1 : f l[k] = none) : (l.take (k + 1)).findSome? f = none := by
  rw [← List.take_append_getElem hk, List.findSome?_append, h0, List.findSome?_cons, h1]
  rfl
theorem filterMap_up {α β : Type} {f : α → Option β} {l : List α} {k : Nat} (hk : k < l.length) : (l.take (k + 1)).filterMap f = (l.take k).filterMap f ++ (f l[k]).toList := by
  rw [← List.take_append_getElem hk, List.filterMap_append]
  cases h : f l[k] <;> simp [h]
end Go.Proofs.YtlhjbllfcbojmaaDoor

namespace Go.Proofs.YtlhjbllfcbojmaaDoor
open Go Go.RowKit Go.Shelf

theorem cellZ {w w' : World} {g o : Nat} {u : Value} {row : Option Nat} (h : w.cell? ⟨g, o, none⟩ = some u) (hg : w.grownBy w' row) (hne : some g ≠ row) : w'.cell? ⟨g, o, none⟩ = some u := (World.cell?_of_block (w := w) (hg.block g (block_lt_of_cell h) hne)).trans h
theorem setsUp_len (k f : Nat) (B : Nat) (hB : ∀ j, (setsI k j).length ≤ B) : ∀ d, (setsUp k f (f + d)).length ≤ d * B
  | 0 => by rw [Nat.add_zero, setsUp_self]; simp
  | d + 1 => by
    have h1 := setsUp_len k f B hB d
    have h2 := hB (f + d + 1)
    rw [← Nat.add_assoc, setsUp_succ k f (f + d) (by omega), List.length_append, List.length_map, Nat.succ_mul]
    omega
theorem sets_len : ∀ k f : Nat, (setsI k f).length ≤ 8 ^ k
  | 0, _ => by simp [setsI]
  | k + 1, f => by
    rw [setsI_succ, Nat.pow_succ, Nat.mul_comm]
    by_cases h : f ≤ 8
    · have := setsUp_len k f _ (sets_len k) (8 - f)
      rw [show f + (8 - f) = 8 by omega] at this
      exact Nat.le_trans this (Nat.mul_le_mul_right _ (by omega))
    · have : setsUp k f 8 = [] := by simp [setsUp, setsUpW, show 8 - f = 0 by omega]
      rw [this]
      exact Nat.zero_le _
theorem info_ints0 : (Tryd.prog.info? 60).map (fun i => (i.zero, i.size, i.bytes)) = some (some (.slice none 0 0), 1, 24) := by kernel_rfl
theorem el_ints0 : ElemOk Tryd.prog 67 60 1 24 := ElemOk.mk' (by decide) Tryd.underlying67 info_ints0 rfl
set_option maxRecDepth 100000 in
set_option maxHeartbeats 2000000 in
theorem r30sets_any : ∀ (k : Nat), k ≤ 3 → ∀ (f : Nat), 1 ≤ f → f ≤ 8 → ∀ w : World, Calls Tryd.prog 34 #[.int .i64 (f : Int), .int .i64 (k : Int)] w (Gives (encS encI) (fun g => w.heap.size ≤ g) w (setsI k f))
  | 0, _, f, _, _, w => by
    have HR : Hid (Sl (encS encI) (fun g => w.heap.size ≤ g) (w.alloc (.cells #[.slice none 0 0] 60)) (.slice (some ⟨w.heap.size, 0, none⟩) 1 1) [[]]) := Lib.hid (Sl.block (E := encS encI) (xs := [[]]) (Bk.new w _ _) (Nat.le_refl _) [[.slice none 0 0]] rfl (fun q hq hq' => by
      obtain rfl : q = 0 := by simp at hq; omega
      exact ⟨_, rfl, Sl.nil _ _ _⟩) rfl (by simp) (by decide))
    have HG : Hid (w.grownBy (w.alloc (.cells #[.slice none 0 0] 60)) none) := Lib.hid (World.grownBy_alloc _ _ _)
    go_enter Tryd.func34, Tryd.ntmps34
    go_wp2
    go_ret
    exact ⟨_, rfl, HR.out, HG.out⟩
  | k + 1, hk3, f, hf1, hf8, w => by
    have IH := Lib.hid (r30sets_any k (by omega))
    have hk0 : (((k + 1 : Nat) : Int) == 0) = false := by simp; omega
    have hkw : ((k + 1 : Nat) : Int) - 1 = (k : Int) := by omega
    obtain ⟨kk, hkk⟩ : ∃ z, z = ((k + 1 : Nat) : Int) := ⟨_, rfl⟩
    have HKK : Hid (kk = ((k + 1 : Nat) : Int)) := Lib.hid hkk
    have hkr : 1 ≤ kk ∧ kk ≤ 3 := by omega
    have HK3 : Hid (k ≤ 2) := Lib.hid (by omega)
    rw [← hkk] at hk0 hkw ⊢
    obtain ⟨L, hL⟩ : ∃ z, z = setsI (k + 1) f := ⟨_, rfl⟩
    have HL : Hid (L = setsUp k f 8) := Lib.hid (by rw [hL, setsI_succ])
    rw [← hL]
    clear hL hkk hk3
    go_enter Tryd.func34, Tryd.ntmps34
    go_wp2_with fail
    go_loopg [5, 6] (8 - f) (fun g s5 s6 wx => ∃ j : Nat, f ≤ j ∧ j + g = 8 ∧ s6 = .int .i64 (j : Int) ∧ Hid (Acc (encS encI) w.heap.size 60 (fun g => w.heap.size ≤ g) wx s5 (setsUp k f j) ∧ w.grownBy wx none))
    case atStart => exact ⟨f, Nat.le_refl _, by omega, rfl, Lib.hid ⟨by rw [setsUp_self]; exact Acc.nil _ _ _ _ _, World.grownBy.refl _ _⟩⟩
    case round =>
      obtain ⟨j, hfj, hj, rfl, HX⟩ := hrel
      cases gk with
      | zero =>
        obtain rfl : j = 8 := by omega
        have HF : Hid (Sl (encS encI) (fun g => w.heap.size ≤ g) wr u5 L ∧ w.grownBy wr none) := Lib.hid ⟨by rw [HL.out]; exact HX.out.1.sl, HX.out.2⟩
        clear HX
        go_wp2
        go_ret
        exact ⟨_, rfl, HF.out.1, HF.out.2⟩
      | succ m =>
        have hj7 : (j : Int) ≤ 7 := by omega
        have hj0 : (0 : Int) ≤ (j : Int) := Int.natCast_nonneg j
        have HJ : Hid (f ≤ j ∧ j ≤ 7 ∧ 1 ≤ j) := Lib.hid (by omega)
        have HIH : Hid (Calls Tryd.prog 34 #[.int .i64 ((j : Int) + 1), .int .i64 (kk - 1)] wr (Gives (encS encI) (fun g => wr.heap.size ≤ g) wr (setsI k (j + 1)))) := Lib.hid (by
          rw [hkw]
          exact IH.out (j + 1) (by omega) (by omega) wr)
        clear hkw
        go_wp2_with fail
        refine HIH.out.mono ?_
        rintro e w2 ⟨vl, rfl, hsl, hg2⟩
        obtain ⟨S, hS⟩ : ∃ z, z = setsI k (j + 1) := ⟨_, rfl⟩
        have HS : Hid (S = setsI k (j + 1) ∧ S.length ≤ 64) := Lib.hid ⟨hS, by
          rw [hS]
          have h1 := sets_len k (j + 1)
          have h2 : 8 ^ k ≤ 8 ^ 2 := Nat.pow_le_pow_right (by decide) HK3.out
          omega⟩
        rw [← hS] at hsl
        have HSL := Lib.hid hsl
        obtain ⟨A, c, rfl, hc1, hc2⟩ := hsl.form
        obtain ⟨n, hn⟩ : ∃ z, z = S.length := ⟨_, rfl⟩
        have HN := Lib.hid hn
        rw [← hn] at hc1 HSL ⊢
        have HG2 := Lib.hid hg2
        have hn64 : n ≤ 64 := by rw [hn]; exact HS.out.2
        clear hS hsl hn hg2 HIH
        go_wp2_with fail
        go_loopg [5, 8] n (fun g s5 s8 wx => ∃ q : Nat, q + g = n ∧ s8 = .int .i64 (q : Int) ∧ Hid (Acc (encS encI) w.heap.size 60 (fun g => w.heap.size ≤ g) wx s5 (setsUp k f j ++ (S.take q).map ((j : Int) :: ·)) ∧ w.grownBy wx none ∧ Sl (encS encI) (fun g => g < wx.heap.size ∧ some g ≠ s5.ownBlock) wx (.slice A n c) S))
        case atStart => exact ⟨0, by omega, rfl, Lib.hid ⟨by simpa using HX.out.1.kept HG2.out, HX.out.2.trans HG2.out, HSL.out.more fun g hg hr => ⟨hg, fun e => by
          have := (HX.out.1.lt g e.symm).2
          have hr : wr.heap.size ≤ g := hr
          omega⟩⟩⟩
        case round =>
          rename World => wy
          obtain ⟨q, hq, rfl, HY⟩ := hrel
          cases gk with
          | zero =>
            obtain rfl : q = n := by omega
            have HFIN : Hid (Acc (encS encI) w.heap.size 60 (fun g => w.heap.size ≤ g) wy u5 (setsUp k f (j + 1)) ∧ w.grownBy wy none) := Lib.hid ⟨by
              rw [setsUp_succ k f j HJ.out.1, ← HS.out.1]
              have := HY.out.1
              rwa [List.take_of_length_le (by rw [← HN.out]; exact Nat.le_refl _)] at this, HY.out.2.1⟩
            clear HY HX
            go_wp2_with fail
            go_roundg m
            case measure => omega
            case rel => exact ⟨j + 1, by omega, by omega, by go_num, HFIN⟩
          | succ m2 =>
            have hqn : (q : Int) < (n : Int) := by omega
            have hq0 : (0 : Int) ≤ (q : Int) := Int.natCast_nonneg q
            have hqS : q < S.length := by have := HN.out; omega
            obtain ⟨g, o, c', u, e, hgl, _, hcu, hsu⟩ := HY.out.2.2.atS hqS
            injection e with e en ec
            subst e
            clear en ec
            obtain ⟨ys, hys⟩ : ∃ z, z = S[q] := ⟨_, rfl⟩
            rw [← hys] at hsu
            have HYK : Hid (ys.length ≤ 3) := Lib.hid (by
              have h1 := (sets_ok k (j + 1) S[q] (by rw [← HS.out.1]; exact List.getElem_mem hqS)).1
              have := HK3.out
              rw [hys, h1]
              omega)
            have HTK : Hid ((S.take (q + 1)).map ((j : Int) :: ·) = (S.take q).map ((j : Int) :: ·) ++ [(j : Int) :: ys]) := Lib.hid (by rw [hys, ← List.take_append_getElem hqS, List.map_append]; rfl)
            obtain ⟨A3, c3, rfl, hc3, hc3'⟩ := hsu.form
            have HLN : Hid (((setsUp k f j ++ (S.take q).map ((j : Int) :: ·)).length + 1) * 24 ≤ 140737488355328) := Lib.hid (by
              have h1 := setsUp_len k f _ (sets_len k) (j - f)
              rw [show f + (j - f) = j by have := HJ.out.1; omega] at h1
              have h2 : 8 ^ k ≤ 8 ^ 2 := Nat.pow_le_pow_right (by decide) HK3.out
              have h3 : (j - f) * 8 ^ k ≤ 8 * 8 ^ 2 := Nat.mul_le_mul (by have := HJ.out; omega) h2
              have h4 := HS.out.2
              rw [List.length_append, List.length_map, List.length_take]
              omega)
            have HGW : Hid (w.grownBy wy none) := Lib.hid HY.out.2.1
            have HLI := Lib.hid HY.out.2.2
            have HAC := Lib.hid HY.out.1
            have hcu' : (wy.alloc (.cells #[.int .i64 (j : Int)] 3)).cell? ⟨g, o + q, none⟩ = some (.slice A3 ys.length c3) := cellZ hcu (World.grownBy_alloc _ _ none) (by simp)
            have HSU : Hid (Sl encI TT (wy.alloc (.cells #[.int .i64 (j : Int)] 3)) (.slice A3 ys.length c3) ys) := Lib.hid ((hsu.kept (World.grownBy_alloc _ _ none)).more fun _ _ _ => trivial)
            have HONE : Hid (Acc encI wy.heap.size 3 (fun g => wy.heap.size ≤ g) (wy.alloc (.cells #[.int .i64 (j : Int)] 3)) (.slice (some ⟨wy.heap.size, 0, none⟩) 1 1) [(j : Int)]) := Lib.hid (Acc.madeI wy _ (Nat.le_refl _) _ (Nat.le_refl _) _ ⟨by omega, by omega⟩)
            have HLN1 : Hid (([(j : Int)].length + ys.length) * 8 ≤ 140737488355328) := Lib.hid (by have := HYK.out; simp; omega)
            have HSZ : Hid (wy.heap.size ≤ (wy.alloc (.cells #[.int .i64 (j : Int)] 3)).heap.size) := Lib.hid (by simp)
            have HLI4 : Hid (∀ w4, wy.grownBy w4 none → Sl (encS encI) (fun g => g < wy.heap.size ∧ some g ≠ u5.ownBlock) w4 (.slice (some ⟨g, o, none⟩) n c) S) := Lib.hid (fun w4 h => HLI.out.kept h)
            have HALL : Hid (wy.grownBy (wy.alloc (.cells #[.int .i64 (j : Int)] 3)) none) := Lib.hid (World.grownBy_alloc _ _ none)
            clear hsu hcu hgl hys hqS HY
            go_wp2_with (at_builtin; refine wpList_apps rfl (.tmp 30) (.tmp 34) rfl (E := encI) el_int0 HONE.out rfl rfl HSU.out (fun _ _ h => h) HLN1.out HSZ.out (fun g hg => Nat.le_trans HSZ.out hg) ?_)
            intro v4 w4 ha4 hg4 _
            have HG4 : Hid (wy.grownBy w4 none) := Lib.hid (grown_up HALL.out hg4 (fun g he => by simp [Value.ownBlock] at he; omega))
            have HS4 : Hid (Sl encI (fun g => wy.heap.size ≤ g) w4 v4 ((j : Int) :: ys)) := Lib.hid ha4.sl
            have HAC4 := Lib.hid (HAC.out.kept HG4.out)
            have HGW4 : Hid (w.grownBy w4 none) := Lib.hid (HGW.out.trans HG4.out)
            have HREP : Hid ((encS encI).rep (fun g => w.heap.size ≤ g ∧ some g ≠ u5.ownBlock) w4 [v4] ((j : Int) :: ys)) := Lib.hid ⟨_, rfl, HS4.out.more fun g _ hg => ⟨Nat.le_trans HGW.out.size hg, fun e => by
              have := (HAC.out.lt g e.symm).2
              omega⟩⟩
            clear ha4 hg4 hcu'
            obtain ⟨A4, c4, e4, _, _⟩ := HS4.out.form
            subst e4
            have HSZ4 : Hid (w.heap.size ≤ w4.heap.size) := Lib.hid HGW4.out.size
            go_wp2_with (at_builtin; refine wpList_push rfl (.tmp 28) (.tmp 36) rfl (E := encS encI) (y := (j : Int) :: ys) el_ints0 HAC4.out rfl rfl HREP.out HLN.out HSZ4.out (fun _ h => Nat.le_trans HSZ4.out h) ?_)
            intro v9 w9 hacc9 hg9 hmv
            have HFIN : Hid (Acc (encS encI) w.heap.size 60 (fun g => w.heap.size ≤ g) w9 v9 (setsUp k f j ++ (S.take (q + 1)).map ((j : Int) :: ·)) ∧ w.grownBy w9 none ∧ Sl (encS encI) (fun g => g < w9.heap.size ∧ some g ≠ v9.ownBlock) w9 (.slice (some ⟨g, o, none⟩) n c) S) := Lib.hid ⟨by simpa [HTK.out, List.map_take] using hacc9, grown_up HGW4.out hg9 (fun g he => (HAC4.out.lt g he).1), ((HLI4.out w4 HG4.out).keep hg9 (fun g hg => hg.2)).more (fun g hg hx => ⟨hg, fun e => hmv.ne (Nat.lt_of_lt_of_le hx.1 HG4.out.size) (fun e2 => hx.2 e2.symm) e.symm⟩)⟩
            clear hacc9 hg9 hmv
            go_wp2_with fail
            go_roundg m2
            case measure => omega
            case rel => exact ⟨q + 1, by omega, by go_num, HFIN⟩
end Go.Proofs.YtlhjbllfcbojmaaDoor

namespace Go.Proofs.YtlhjbllfcbojmaaDoor
open Go.RowKit

theorem mulI_no (a b m : Int) (hm : mayB m = false) : mulI a b m = 0 := by simp [mulI, hm]
theorem timesI_no (P : Int) (l : List Int) (hm : mayB P = false) : timesI P l = 0 := by
  unfold timesI
  rcases List.eq_nil_or_concat l with rfl | ⟨l', x, rfl⟩
  · exact mulI_no _ _ _ hm
  · rw [List.concat_eq_append, List.foldl_append]
    exact mulI_no _ _ _ hm
theorem one_mod (P : Int) (hm : mayB P = true) : 1 % P = timesI P [] := by
  show _ = mulI 1 1 P
  rw [mulI_yes _ _ _ hm, Int.mul_one]
set_option maxHeartbeats 400000 in
theorem rtimes_any (p : Par) (v : Value) (l : List Int) (X : Nat → Prop) (w : World) (hp : p.ok) (h : Sl encU X w v l) :
    Calls Tryd.prog 41 #[p.v, v] w fun e w' => e = .returned (.int .u64 (timesI p.P l)) ∧ w.grownBy w' none := by
  have H := Lib.hid h
  have HP := Lib.hid hp.P
  have hp0 : 0 ≤ p.P := hp.P.1
  have hp1 : p.P < 18446744073709551616 := hp.P.2
  obtain ⟨A, c, rfl, h1, h2⟩ := h.form
  clear h hp
  cases hm : mayB p.P with
  | false =>
    have HE : Hid (timesI p.P l = 0) := Lib.hid (timesI_no _ _ hm)
    rcases may_cases hm hp0 with h0 | h0
    · have hb : (p.P == 0) = true := by simpa using h0
      clear hm h0 hp0 hp1
      go_enter Tryd.func41, Tryd.ntmps41
      go_wp2
      go_ret
      exact ⟨ret_u64 HE.out.symm, World.grownBy_alloc w _ none⟩
    · have hb : (p.P == 0) = false := by simp; omega
      have hb' : decide (2305843009213693952 < p.P) = true := by simpa using h0
      clear hm
      go_enter Tryd.func41, Tryd.ntmps41
      go_wp2
      go_ret
      exact ⟨ret_u64 HE.out.symm, World.grownBy_alloc w _ none⟩
  | true =>
    have HM := Lib.hid hm
    obtain ⟨m0, m1⟩ : 0 < p.P ∧ p.P ≤ 2305843009213693952 := by simpa [mayB] using hm
    have hb : (p.P == 0) = false := by simp; omega
    have hb' : decide (2305843009213693952 < p.P) = false := by simp; omega
    have HO := Lib.hid (one_mod p.P hm)
    have HB : Hid (w.grownBy (w.alloc (Obj.cells p.cells 24)) none ∧ Bk (w.alloc (Obj.cells p.cells 24)) w.heap.size 24 p.cells) := Lib.hid ⟨World.grownBy_alloc w _ none, Bk.new w _ _⟩
    clear hm
    go_enter Tryd.func41, Tryd.ntmps41
    go_wp2
    rw [HO.out]
    go_loopg [5, 6] l.length (fun g sx si wx => ∃ j : Nat, j + g = l.length ∧ si = .int .i64 j ∧ sx = .int .u64 (timesI p.P (l.take j)) ∧ Hid (w.grownBy wx none ∧ Bk wx w.heap.size 24 p.cells))
    case atStart => exact ⟨0, by omega, rfl, rfl, HB⟩
    case round =>
      obtain ⟨j, hj, rfl, rfl, HX⟩ := hrel
      cases gk with
      | zero =>
        obtain rfl : j = l.length := by omega
        have HE : Hid (timesI p.P (l.take l.length) = timesI p.P l) := Lib.hid (by rw [List.take_length])
        go_wp2
        go_ret
        exact ⟨ret_u64 HE.out, HX.out.1⟩
      | succ k =>
        have hjn : (j : Int) < (l.length : Int) := by omega
        have hjN : j < l.length := by omega
        obtain ⟨g, o, c', e, _, _, hc, hu⟩ := (H.out.kept HX.out.1).atU hjN
        injection e with e1 e2 e3
        subst e1 e3
        have cP : wr.cell? ⟨w.heap.size, 0, none⟩ = some (.int .u64 p.P) := HX.out.2.cell 0
        have HS := Lib.hid (timesI_snoc p.P l j hjN)
        have HTm := Lib.hid (timesI_U64 p.P (l.take j))
        have HU := Lib.hid hu
        generalize l[j] = y at *
        generalize timesI p.P (l.take j) = t at *
        clear hu e2
        go_wp2_with fail
        go_quiet ((go_at_call 25; exact Calls.quiet_of (refmul_any t y p.P _ HTm.out HU.out HP.out)))
        go_wp2
        go_roundg k
        case measure => omega
        case rel => exact ⟨j + 1, by omega, by go_num, by rw [HS.out], Lib.hid ⟨grownBy_drewN HX.out.1 _, HX.out.2.drewN _⟩⟩
theorem rtimes_nil (p : Par) (w : World) (hp : p.ok) :
    Calls Tryd.prog 41 #[p.v, .slice none 0 0] w fun e w' => e = .returned (.int .u64 (timesI p.P [])) ∧ w.grownBy w' none :=
  rtimes_any p _ [] (fun _ => True) w hp (Sl.nil _ _ _)
theorem rtimes_two (p : Par) (a b : Int) (w : World) (hp : p.ok) (ha : U64 a) (hb : U64 b) :
    Calls Tryd.prog 41 #[p.v, .slice (some ⟨w.heap.size, 0, none⟩) 2 2] (w.alloc (Obj.cells #[.int .u64 a, .int .u64 b] 22)) fun e w' => e = .returned (.int .u64 (timesI p.P [a, b])) ∧ w.grownBy w' none :=
  (rtimes_any p _ [a, b] (fun _ => True) _ hp (Sl.ofBk (t := 22) (Bk.new w 22 (nums [a, b]).toArray) (by intro y hy; simp at hy; rcases hy with rfl | rfl <;> assumption) (by simp))).mono fun _ _ ⟨he, hg⟩ => ⟨he, (World.grownBy_alloc w _ none).trans hg⟩
theorem rtimes_three (p : Par) (a b c : Int) (w : World) (hp : p.ok) (ha : U64 a) (hb : U64 b) (hc : U64 c) :
    Calls Tryd.prog 41 #[p.v, .slice (some ⟨w.heap.size, 0, none⟩) 3 3] (w.alloc (Obj.cells #[.int .u64 a, .int .u64 b, .int .u64 c] 22)) fun e w' => e = .returned (.int .u64 (timesI p.P [a, b, c])) ∧ w.grownBy w' none :=
  (rtimes_any p _ [a, b, c] (fun _ => True) _ hp (Sl.ofBk (t := 22) (Bk.new w 22 (nums [a, b, c]).toArray) (by intro y hy; simp at hy; rcases hy with rfl | rfl | rfl <;> assumption) (by simp))).mono fun _ _ ⟨he, hg⟩ => ⟨he, (World.grownBy_alloc w _ none).trans hg⟩

theorem timesI_two (P a b : Int) (hm : mayB P = true) : timesI P [a, b] = a * b % P := by
  show mulI (mulI (mulI 1 1 P) a P) b P = _
  rw [mulI_yes _ _ _ hm, mulI_yes _ _ _ hm, mulI_yes _ _ _ hm, Int.mul_one]
  exact ((Cg.mod P _).trans ((Cg.mod P 1).mul_right a |>.trans (Cg.of_eq (Int.one_mul a)))).mul_right b
theorem timesI_three (P a b c : Int) (hm : mayB P = true) : timesI P [a, b, c] = a * b * c % P := by
  show mulI (timesI P [a, b]) c P = _
  rw [mulI_yes _ _ _ hm, timesI_two _ _ _ hm]
  exact (Cg.mod P _).mul_right c
theorem rpow_zero (a P : Int) : timesI P [] = powI a 0 P := by
  cases hm : mayB P with
  | false => rw [timesI_no _ _ hm]; simp [powI, hm]
  | true => rw [← one_mod P hm]; simp [powI, hm]
theorem rpow_even (a e P : Int) (he : 0 ≤ e) (h2 : e % 2 = 0) : timesI P [powI a (e / 2) P, powI a (e / 2) P] = powI a e P := by
  cases hm : mayB P with
  | false => rw [timesI_no _ _ hm]; simp [powI, hm]
  | true => rw [timesI_two _ _ _ hm, ← pow_even a e P he h2, mulI_yes _ _ _ hm]
theorem rpow_odd (a e P : Int) (he : 0 ≤ e) (h2 : e % 2 = 1) : timesI P [powI a (e / 2) P, powI a (e / 2) P, a] = powI a e P := by
  cases hm : mayB P with
  | false => rw [timesI_no _ _ hm]; simp [powI, hm]
  | true =>
    rw [timesI_three _ _ _ _ hm, ← pow_odd a e P he h2, mulI_yes _ _ _ hm, mulI_yes _ _ _ hm]
    exact ((Cg.mod P _).mul_right a).symm

set_option maxHeartbeats 400000 in
theorem rpower_fuel (p : Par) (hp : p.ok) (x : Int) (hx : U64 x) : ∀ (f : Nat) (e : Int) (w : World), 0 ≤ e → e < 18446744073709551616 → e.toNat < 2 ^ f →
    Calls Tryd.prog 29 #[p.v, .int .u64 x, .int .u64 e] w fun e' w' => e' = .returned (.int .u64 (powI x e p.P)) ∧ w.grownBy w' none := by
  have HA := Lib.hid hx
  have HP := Lib.hid hp
  clear hx hp
  have base : ∀ w : World, Calls Tryd.prog 29 #[p.v, .int .u64 x, .int .u64 0] w fun e' w' => e' = .returned (.int .u64 (powI x 0 p.P)) ∧ w.grownBy w' none := by
    intro w
    rw [← rpow_zero]
    go_enter Tryd.func29, Tryd.ntmps29
    go_wp2_with fail
    refine (rtimes_nil p _ HP.out).mono ?_
    rintro e w1 ⟨rfl, hg⟩
    have HG := Lib.hid hg
    clear hg
    go_wp2
    go_ret
    exact ⟨rfl, (World.grownBy_alloc w _ none).trans HG.out⟩
  intro f
  induction f with
  | zero =>
    intro e w h0 h1 hf
    have : e = 0 := by simp at hf; omega
    subst this
    exact base w
  | succ f ih =>
    intro e w h0 h1 hf
    by_cases hz : e = 0
    · subst hz
      exact base w
    · have hz' : (e == 0) = false := by simpa using hz
      have HI := Lib.hid (fun w => ih (e / 2) w (by omega) (by omega) (by rw [Nat.pow_succ] at hf; omega))
      have HH := Lib.hid (powI_U64' x (e / 2) p.P)
      clear ih hf hz base
      by_cases h2 : e % 2 = 1
      · have h2' : (e % 2 == 1) = true := by simpa using h2
        rw [← rpow_odd x e p.P h0 h2]
        clear h2
        go_enter Tryd.func29, Tryd.ntmps29
        go_wp2_with fail
        refine (HI.out _).mono ?_
        rintro e w1 ⟨rfl, hg⟩
        have HG := Lib.hid hg
        have hp1 := ((Bk.new w 24 p.cells).grown hg (by simp)).prule
        clear hg
        go_wp2_with fail
        refine (rtimes_three p _ _ x w1 HP.out HH.out HH.out HA.out).mono ?_
        rintro e w2 ⟨rfl, hg⟩
        have HG2 := Lib.hid hg
        clear hg
        go_wp2
        go_ret
        exact ⟨rfl, (World.grownBy_alloc w _ none).trans (HG.out.trans HG2.out)⟩
      · have h2' : (e % 2 == 1) = false := by simpa using h2
        rw [← rpow_even x e p.P h0 (by omega)]
        clear h2
        go_enter Tryd.func29, Tryd.ntmps29
        go_wp2_with fail
        refine (HI.out _).mono ?_
        rintro e w1 ⟨rfl, hg⟩
        have HG := Lib.hid hg
        have hp1 := ((Bk.new w 24 p.cells).grown hg (by simp)).prule
        clear hg
        go_wp2_with fail
        refine (rtimes_two p _ _ w1 HP.out HH.out HH.out).mono ?_
        rintro e w2 ⟨rfl, hg⟩
        have HG2 := Lib.hid hg
        clear hg
        go_wp2
        go_ret
        exact ⟨rfl, (World.grownBy_alloc w _ none).trans (HG.out.trans HG2.out)⟩
theorem rpower_any (p : Par) (hp : p.ok) (x e : Int) (w : World) (hx : U64 x) (he : U64 e) :
    Calls Tryd.prog 29 #[p.v, .int .u64 x, .int .u64 e] w fun e' w' => e' = .returned (.int .u64 (powI x e p.P)) ∧ w.grownBy w' none := by
  obtain ⟨e0, e1⟩ := he
  exact rpower_fuel p hp x hx 64 e w e0 e1 (by have : (2 : Nat) ^ 64 = 18446744073709551616 := by decide
                                               omega)
set_option maxHeartbeats 400000 in
theorem rcommit_any (p : Par) (x : Int × Int) (w : World) (hp : p.ok) (h1 : U64 x.1) (h2 : U64 x.2) :
    Calls Tryd.prog 22 #[p.v, .agg #[.int .u64 x.1, .int .u64 x.2]] w fun e' w' => e' = .returned (.int .u64 (commitI p x)) ∧ w.grownBy w' none := by
  have HG : Hid (U64 p.G) := Lib.hid hp.G
  have HH : Hid (U64 p.H) := Lib.hid hp.H
  have H1 := Lib.hid h1
  have H2 := Lib.hid h2
  have HU := Lib.hid (powI_U64' p.G x.1 p.P)
  have HL := Lib.hid (powI_U64' p.H x.2 p.P)
  have HP := Lib.hid hp
  clear hp h1 h2
  go_enter Tryd.func22, Tryd.ntmps22
  go_wp2_with fail
  go_region_held3 (fun w' => ∀ b o, b < w.heap.size + 2 → w'.cell? ⟨b, o, none⟩ = ((w.alloc (Obj.cells p.cells 24)).alloc (Obj.cells #[.int .u64 x.1, .int .u64 x.2] 26)).cell? ⟨b, o, none⟩) (first | assumption | exact cells_alloc (by assumption) (by assumption) _ | go_keep)
    (first
    | (go_at_call 29; (with_reducible refine (rpower_any p HP.out p.G x.1 _ HG.out H1.out).mono ?_); rintro e w1 ⟨rfl, hg⟩; have HG1 := Lib.hid hg; have hc1 := cells_of (n := w.heap.size + 2) hg (by simp); clear hg)
    | (go_at_call 29; (with_reducible refine (rpower_any p HP.out p.H x.2 _ HH.out H2.out).mono ?_); rintro e w2 ⟨rfl, hg⟩; have HG2 := Lib.hid (HG1.out.trans hg); have hc2 := cells_of (n := w.heap.size + 2) HG2.out (by simp); have hs2 : w.heap.size + 2 ≤ w2.heap.size := Nat.le_trans (by simp) HG2.out.size; clear hg)
    | (go_at_call 41; (with_reducible refine (rtimes_two p _ _ w2 HP.out HU.out HL.out).mono ?_); rintro e w3 ⟨rfl, hg⟩; have HG3 := Lib.hid (HG2.out.trans hg); have hc3 := cells_of (n := w.heap.size + 2) HG3.out (by simp); clear hg))
  go_wp2
  go_ret
  exact ⟨rfl, ((World.grownBy_alloc w _ none).trans (World.grownBy_alloc _ _ none)).trans (grownBy_drewN (World.grownBy.refl _ none) 1 |>.trans HG3.out)⟩
set_option maxHeartbeats 400000 in
theorem ris_any (p : Par) (x : Int) (w : World) (hp : p.ok) (h1 : U64 x) :
    Calls Tryd.prog 79 #[p.v, .int .u64 x] w fun e' w' => e' = .returned (.bool (isB p x)) ∧ w.grownBy w' none := by
  have HP := Lib.hid hp
  have H1 := Lib.hid h1
  have hx0 := h1.1
  clear hp h1
  by_cases hm : p.P ≤ 2305843009213693952
  · by_cases ha : 1 ≤ x
    · by_cases hb : x < p.P
      · have HE : Hid (isB p x = (powI x p.Q p.P == 1)) := Lib.hid (by simp [isB, ha, hb])
        go_enter Tryd.func79, Tryd.ntmps79
        go_wp2_with fail
        refine (rpower_any p HP.out x p.Q _ H1.out HP.out.Q).mono ?_
        rintro e w1 ⟨rfl, hg⟩
        have HG := Lib.hid hg
        clear hg
        go_wp2
        go_ret
        exact ⟨ret_bool HE.out.symm, (World.grownBy_alloc w _ none).trans HG.out⟩
      · have HE : Hid (isB p x = false) := Lib.hid (by simp [isB, hb])
        have hb' : decide (x < p.P) = false := by simpa using hb
        clear hb
        go_enter Tryd.func79, Tryd.ntmps79
        go_wp2_with fail
        go_ret
        exact ⟨ret_bool HE.out.symm, World.grownBy_alloc w _ none⟩
    · have HE : Hid (isB p x = false) := Lib.hid (by simp [isB, ha])
      go_enter Tryd.func79, Tryd.ntmps79
      go_wp2_with fail
      go_ret
      exact ⟨ret_bool HE.out.symm, World.grownBy_alloc w _ none⟩
  · have HE : Hid (isB p x = false) := Lib.hid (by
      have : powI x p.Q p.P = 0 := by simp [powI, mayB]; omega
      simp [isB, this])
    go_enter Tryd.func79, Tryd.ntmps79
    go_wp2_with fail
    go_ret
    exact ⟨ret_bool HE.out.symm, World.grownBy_alloc w _ none⟩
end Go.Proofs.YtlhjbllfcbojmaaDoor

namespace Go.Proofs.YtlhjbllfcbojmaaDoor
open Go.RowKit

/-- n - 1 by squares of 2. -/
theorem ctz_split (n : Int) (h2 : 2 ≤ n) (hn : n ≤ 2305843009213693952) : ∃ u : Int, n - 1 = 2 ^ Lib.ctz 64 (n - 1).toNat * u ∧ u % 2 = 1 ∧ 0 < u ∧ Lib.ctz 64 (n - 1).toNat < 64 ∧ (n % 2 = 1 → 1 ≤ Lib.ctz 64 (n - 1).toNat) := by
  have h0 : (n - 1).toNat ≠ 0 := by omega
  have e : Lib.ctz 64 (n - 1).toNat = Lib.ctzFrom 64 (n - 1).toNat := by unfold Lib.ctz; rw [if_neg h0]
  obtain ⟨m, hm, hk⟩ := Lib.ctzFrom_spec 64 (n - 1).toNat (by omega) (by omega)
  rw [e]
  generalize Lib.ctzFrom 64 (n - 1).toNat = t at hm hk
  refine ⟨2 * m + 1, ?_, by omega, by omega, hk, fun ho => ?_⟩
  · have : ((n - 1).toNat : Int) = n - 1 := by omega
    rw [← this, hm]
    simp [Int.natCast_mul, Int.natCast_pow]
  · rcases Nat.eq_zero_or_pos t with h | h
    · subst h; simp at hm; omega
    · exact h
theorem pow_half (g : Nat) (u : Int) : (2 : Int) ^ (g + 1) * u % 2 = 0 ∧ (2 : Int) ^ (g + 1) * u / 2 = 2 ^ g * u := by
  have : (2 : Int) ^ (g + 1) * u = 2 * (2 ^ g * u) := by rw [Int.pow_succ, Int.mul_comm (2 ^ g) 2, Int.mul_assoc]
  rw [this]
  omega
theorem pow_le_all {g t : Nat} (h : g ≤ t) {u : Int} (hu : 0 < u) : 0 < (2 : Int) ^ g * u ∧ (2 : Int) ^ g * u ≤ 2 ^ t * u := by
  have h1 : (0 : Int) < 2 ^ g := Int.pow_pos (by decide)
  refine ⟨Int.mul_pos h1 hu, Int.mul_le_mul_of_nonneg_right ?_ (by omega)⟩
  have : (2 : Nat) ^ g ≤ 2 ^ t := Nat.pow_le_pow_right (by decide) h
  exact_mod_cast this

set_option maxHeartbeats 1000000 in
theorem against_any (a n : Int) (w : World) (ha : U64 a) (h3 : 3 ≤ n) (hn : n ≤ 2305843009213693952) (ho : n % 2 = 1) :
    Calls Tryd.prog 80 #[.int .u64 a, .int .u64 n] w fun e w' => e = .returned (.bool (!(passB n a (Lib.ctz 64 (n - 1).toNat)))) ∧ ∃ k, w' = w.drewN k := by
  obtain ⟨u, hu, hu1, hu0, ht64, ht1⟩ := ctz_split n (by omega) hn
  have ht1 := ht1 ho
  generalize Lib.ctz 64 (n - 1).toNat = t at *
  have hdiv : (n - 1) / 2 ^ t = u := by rw [hu]; exact Int.mul_ediv_cancel_left _ (Int.ne_of_gt (Int.pow_pos (by decide)))
  have HUU : Hid (n - 1 = 2 ^ t * u ∧ 0 < u ∧ u % 2 = 1) := Lib.hid ⟨hu, hu0, hu1⟩
  have hul : u ≤ n - 1 := by rw [hu]; have := (pow_le_all (Nat.zero_le t) hu0).2; simpa using this
  have HP := Lib.hid (fun w => refpow_any a u n w ha ⟨by omega, by omega⟩ ⟨by omega, by omega⟩)
  obtain ⟨res, hres⟩ : ∃ r, r = (!(passB n a t)) := ⟨_, rfl⟩
  rw [← hres]
  have HRES : Hid (res = !(powI a u n == 1 || witB n t (powI a u n))) := Lib.hid (by rw [hres]; unfold passB; rw [hdiv])
  clear hdiv hres hu hu1 hu0 hul ha ho
  go_enter Tryd.func80, Tryd.ntmps80
  go_wp2_with fail
  go_loopg [5, 6] t (fun g s5 s6 wx => ∃ (x : Int) (i : Nat), i + g = t ∧ s5 = .int .u64 x ∧ s6 = .int .i64 i ∧ Hid (x = 2 ^ g * u ∧ U64 x) ∧ ∃ q, wx = w.drewN q)
  case atStart => exact ⟨_, 0, by omega, rfl, rfl, Lib.hid ⟨HUU.out.1, ⟨by omega, by omega⟩⟩, 0, rfl⟩
  case round =>
    obtain ⟨x, i, hi, rfl, rfl, HX, q, rfl⟩ := hrel
    have hxb := HX.out.2
    obtain ⟨x0, x1⟩ := hxb
    cases gk with
    | succ g =>
      have hp := pow_half g u
      have hx2 : (x % 2 == 0) = true := by rw [HX.out.1, hp.1]; rfl
      have HXN : Hid (x / 2 = 2 ^ g * u ∧ U64 (x / 2)) := Lib.hid ⟨by rw [HX.out.1, hp.2], by omega, by omega⟩
      clear hp HX
      go_wp2_with fail
      go_roundg g
      case measure => omega
      case rel => exact ⟨x / 2, i + 1, by omega, rfl, by go_num, HXN, _, rfl⟩
    | zero =>
      obtain rfl : i = t := by omega
      have hxu : x = u := by rw [HX.out.1]; simp
      subst hxu
      have hx2 : (x % 2 == 0) = false := by have := HUU.out.2.2; simp; omega
      have HX0 := Lib.hid (powI_U64 a x n)
      generalize powI a x n = z0 at HP HRES HX0
      clear HX HUU
      obtain ⟨z0l, z0u⟩ := HX0.out
      by_cases hx1 : z0 = 1
      · have hx1' : (z0 == 1) = true := by simpa using hx1
        have HE : Hid (false = res) := Lib.hid (by rw [HRES.out, hx1']; rfl)
        clear hx1
        go_wp2_with fail
        refine (HP.out _).mono ?_
        rintro e w' ⟨rfl, n1, rfl⟩
        go_wp2_with fail
        (try rw [Exit.noGoto_ret])
        go_ret
        exact ⟨congrArg Ending.returned (congrArg Value.bool HE.out), _, rfl⟩
      · have hx1' : (z0 == 1) = false := by simpa using hx1
        have HR2 : Hid (res = !(witB n i z0)) := Lib.hid (by rw [HRES.out, hx1', Bool.false_or])
        clear hx1 HRES
        obtain ⟨m, rfl⟩ : ∃ m, i = m + 1 := ⟨i - 1, by omega⟩
        by_cases hxn : z0 = n - 1
        · have hxn' : (z0 == n - 1) = true := by simpa using hxn
          have HE : Hid (false = res) := Lib.hid (by rw [HR2.out, witB, hxn']; rfl)
          clear hxn
          go_wp2_with fail
          refine (HP.out _).mono ?_
          rintro e w' ⟨rfl, n1, rfl⟩
          go_wp2_with fail
          (try rw [Exit.noGoto_ret])
          go_ret
          exact ⟨congrArg Ending.returned (congrArg Value.bool HE.out), _, rfl⟩
        · have hxn' : (z0 == n - 1) = false := by simpa using hxn
          have HR3 : Hid (res = !(witB n m (mulI z0 z0 n))) := Lib.hid (by rw [HR2.out, witB, hxn', Bool.false_or])
          clear hxn HR2
          go_wp2_with fail
          refine (HP.out _).mono ?_
          rintro e w' ⟨rfl, n1, rfl⟩
          go_wp2_with fail
          clear hx1' hxn'
          go_loopg [7, 8] m (fun h s7 s8 wx => ∃ (z : Int) (j : Nat), j + h = m + 1 ∧ s7 = .int .u64 z ∧ s8 = .int .i64 j ∧ Hid (U64 z ∧ witB n h (mulI z z n) = witB n m (mulI z0 z0 n)) ∧ ∃ q, wx = w.drewN q)
          case atStart => exact ⟨z0, 1, by omega, rfl, rfl, Lib.hid ⟨HX0.out, rfl⟩, _, rfl⟩
          case round =>
            obtain ⟨z, j, hj, rfl, rfl, HZ, q2, rfl⟩ := hrel
            obtain ⟨z1, z2⟩ := HZ.out.1
            have HM := Lib.hid (fun w => refmul_any z z n w ⟨z1, z2⟩ ⟨z1, z2⟩ ⟨by omega, by omega⟩)
            have HMU := Lib.hid (mulI_U64 z z n)
            have HW := Lib.hid HZ.out.2
            clear HZ
            generalize mulI z z n = y at HM HMU HW
            obtain ⟨y1, y2⟩ := HMU.out
            cases gk with
            | zero =>
              obtain rfl : j = m + 1 := by omega
              have HE : Hid (true = res) := Lib.hid (by rw [HR3.out, ← HW.out]; rfl)
              go_wp2_with fail
              (try rw [Exit.noGoto_ret])
              go_ret
              exact ⟨congrArg Ending.returned (congrArg Value.bool HE.out), _, rfl⟩
            | succ h =>
              have hjt : (j : Int) < ((m + 1 : Nat) : Int) := by omega
              by_cases hyn : y = n - 1
              · have hyn' : (y == n - 1) = true := by simpa using hyn
                have HE : Hid (false = res) := Lib.hid (by rw [HR3.out, ← HW.out, witB, hyn']; rfl)
                clear hyn
                go_wp2_with fail
                refine (HM.out _).mono ?_
                rintro e w' ⟨rfl, n2, rfl⟩
                go_wp2_with fail
                (try rw [Exit.noGoto_ret])
                go_ret
                exact ⟨congrArg Ending.returned (congrArg Value.bool HE.out), _, rfl⟩
              · have hyn' : (y == n - 1) = false := by simpa using hyn
                have HWN : Hid (witB n h (mulI y y n) = witB n m (mulI z0 z0 n)) := Lib.hid (by rw [← HW.out, witB, hyn', Bool.false_or])
                clear hyn
                go_wp2_with fail
                refine (HM.out _).mono ?_
                rintro e w' ⟨rfl, n2, rfl⟩
                go_wp2_with fail
                go_roundg h
                case measure => omega
                case rel => exact ⟨y, j + 1, by omega, rfl, by go_num, Lib.hid ⟨HMU.out, HWN.out⟩, _, rfl⟩
theorem Bk.rd' {w : World} {g : Nat} {t : TypeId} {xs : List Value} (h : Bk w g t xs.toArray) : Rd w (some ⟨g, 0, none⟩) xs := fun _ => ⟨g, 0, rfl, h.lt, fun j u hu => by rw [Nat.zero_add, h.cell]; simpa using hu⟩
/-- Small divisors, from d on, g of them. -/
def tdivB (n : Int) : Nat → Int → Bool
  | 0, _ => false
  | g + 1, d => if d * d ≤ n then (if n % d = 0 then true else tdivB n g (d + 1)) else false
def refPrimeB (n : Int) : Bool := if n < 2 ∨ 2305843009213693952 < n then false else if tdivB n 998 2 then false else if n < 1000000 then true else triedL.all fun a => passB n a (Lib.ctz 64 (n - 1).toNat)
theorem sq_le {d : Int} (h0 : 0 ≤ d) (h1 : d ≤ 1000) : 0 ≤ d * d ∧ d * d ≤ 1000000 := by
  refine ⟨Int.mul_nonneg h0 h0, ?_⟩
  calc d * d ≤ 1000 * d := Int.mul_le_mul_of_nonneg_right h1 h0
    _ ≤ 1000 * 1000 := Int.mul_le_mul_of_nonneg_left h1 (by decide)
    _ = 1000000 := by decide
theorem triedL_U64 (j : Nat) (h : j < triedL.length) : U64 triedL[j] := by
  have key : ∀ a ∈ triedL, 0 ≤ a ∧ a < 18446744073709551616 := by decide
  exact key _ (List.getElem_mem h)
theorem refprime_out (n : Int) (w : World) (h : n < 2 ∨ 2305843009213693952 < n) :
    Calls Tryd.prog 61 #[.int .u64 n] w fun e w' => e = .returned (.bool false) ∧ w.grownBy w' none := by
  by_cases h2 : n < 2
  · clear h
    have h2' : decide (n < 2) = true := by simpa using h2
    go_enter Tryd.func61, Tryd.ntmps61
    go_wp2
    go_ret
    exact ⟨rfl, World.grownBy.refl _ _⟩
  · have h2' : decide (n < 2) = false := by simpa using h2
    have h3 : 2305843009213693952 < n := h.resolve_left h2
    have h3' : decide (2305843009213693952 < n) = true := by simpa using h3
    clear h
    go_enter Tryd.func61, Tryd.ntmps61
    go_wp2
    go_ret
    exact ⟨rfl, World.grownBy.refl _ _⟩
theorem drewN_grown (w : World) (n : Nat) : w.grownBy (w.drewN n) none := ⟨rfl, rfl, rfl, Nat.le_refl _, fun _ _ _ => rfl⟩
set_option maxHeartbeats 1000000 in
theorem refprime_in (n : Int) (w : World) (h2 : 2 ≤ n) (h3 : n ≤ 2305843009213693952) :
    Calls Tryd.prog 61 #[.int .u64 n] w fun e w' => e = .returned (.bool (if tdivB n 998 2 then false else if n < 1000000 then true else triedL.all fun a => passB n a (Lib.ctz 64 (n - 1).toNat))) ∧ w.grownBy w' none := by
  have h2' : decide (n < 2) = false := by simp; omega
  have h3' : decide (2305843009213693952 < n) = false := by simp; omega
  obtain ⟨res, hres⟩ : ∃ r, r = (if tdivB n 998 2 then false else if n < 1000000 then true else triedL.all fun a => passB n a (Lib.ctz 64 (n - 1).toNat)) := ⟨_, rfl⟩
  rw [← hres]
  have HRES := Lib.hid hres
  have HA := Lib.hid (fun (ho : n % 2 = 1) (h : 3 ≤ n) (a : Int) (w : World) (ha : U64 a) => against_any a n w ha h h3 ho)
  generalize Lib.ctz 64 (n - 1).toNat = t at *
  clear hres
  go_enter Tryd.func61, Tryd.ntmps61
  go_wp2_with fail
  go_loopg [3] 998 (fun g s3 wx => ∃ d : Int, d + g = 1000 ∧ 2 ≤ d ∧ s3 = .int .u64 d ∧ Hid (tdivB n g d = tdivB n 998 2 ∧ (2 < d → n % 2 ≠ 0)) ∧ ∃ q, wx = w.drewN q)
  case atStart => exact ⟨2, by omega, by omega, rfl, Lib.hid ⟨rfl, fun h => by omega⟩, 0, rfl⟩
  case round =>
    obtain ⟨d, hd, hd2, rfl, HD, q, rfl⟩ := hrel
    obtain ⟨q1, q2⟩ := sq_le (d := d) (by omega) (by omega)
    by_cases hgo : (d < 1000 ∧ d * d ≤ n)
    · obtain ⟨g, rfl⟩ : ∃ g, gk = g + 1 := ⟨gk - 1, by omega⟩
      have hd1 : decide (d < 1000) = true := by simpa using hgo.1
      have hd3 : decide (d * d ≤ n) = true := by simpa using hgo.2
      have hnz : ¬ d = 0 := by omega
      by_cases hdv : n % d = 0
      · have hdv' : (n % d == 0) = true := by simpa using hdv
        have HE : Hid (false = res) := Lib.hid (by
          have e : tdivB n 998 2 = true := by rw [← HD.out.1, tdivB, if_pos hgo.2, if_pos hdv]
          rw [HRES.out, if_pos e])
        clear hgo hdv
        go_wp2_with fail
        (try rw [Exit.noGoto_ret])
        go_ret
        exact ⟨congrArg Ending.returned (congrArg Value.bool HE.out), drewN_grown _ _⟩
      · have hdv' : (n % d == 0) = false := by simpa using hdv
        have HN : Hid (tdivB n g (d + 1) = tdivB n 998 2 ∧ (2 < d + 1 → n % 2 ≠ 0)) := Lib.hid ⟨by rw [← HD.out.1, tdivB, if_pos hgo.2, if_neg hdv], fun _ => by
          by_cases h : d = 2
          · subst h; exact hdv
          · exact HD.out.2 (by omega)⟩
        clear hgo hdv
        go_wp2_with fail
        go_roundg g
        case measure => omega
        case rel => exact ⟨d + 1, by omega, by omega, rfl, HN, _, rfl⟩
    · have HT : Hid (tdivB n 998 2 = false) := Lib.hid (by
        rw [← HD.out.1]
        cases gk with
        | zero => rfl
        | succ g =>
          rw [tdivB, if_neg]
          intro h
          exact hgo ⟨by omega, h⟩)
      have HO := Lib.hid HD.out.2
      clear HD
      have hpick : decide (d < 1000) = false ∨ (decide (d < 1000) = true ∧ decide (d * d ≤ n) = false) := by
        by_cases h : d < 1000
        · exact .inr ⟨by simpa using h, by simp; exact Int.not_le.1 fun h' => hgo ⟨h, h'⟩⟩
        · exact .inl (by simpa using h)
      by_cases hsm : n < 1000000
      · have hsm' : decide (n < 1000000) = true := by simpa using hsm
        have HE : Hid (true = res) := Lib.hid (by rw [HRES.out, if_neg (by rw [HT.out]; simp), if_pos hsm])
        clear hsm hgo
        rcases hpick with hd1 | ⟨hd1, hd3⟩
        all_goals (go_wp2_with fail; (try rw [Exit.noGoto_ret]); go_ret; exact ⟨congrArg Ending.returned (congrArg Value.bool HE.out), drewN_grown _ _⟩)
      · have hsm' : decide (n < 1000000) = false := by simpa using hsm
        have hd1 : decide (d < 1000) = false := by
          rcases hpick with h | ⟨h1, h3⟩
          · exact h
          · simp at h1 h3; omega
        have HOD : Hid (n % 2 = 1) := Lib.hid (by have := HO.out (by simp at hd1; omega); omega)
        have HR2 : Hid (res = triedL.all fun a => passB n a t) := Lib.hid (by rw [HRES.out, if_neg (by rw [HT.out]; simp), if_neg hsm])
        have HA2 := Lib.hid (HA.out HOD.out (by omega))
        clear hsm hgo hpick HA HRES HT HO HOD
        go_wp2_with fail
        go_loopg [31] 12 (fun g s31 wx => ∃ j : Nat, j + g = 12 ∧ s31 = .int .i64 j ∧ Hid ((triedL.drop j).all (fun a => passB n a t) = triedL.all (fun a => passB n a t)) ∧ Hid (w.grownBy wx none ∧ Rd wx (some ⟨w.heap.size, 0, none⟩) (nums triedL)))
        case atStart => exact ⟨0, by omega, rfl, Lib.hid rfl, Lib.hid ⟨(drewN_grown _ _).trans (World.grownBy_alloc _ _ none), (Bk.rd' (Bk.new (w.drewN q) _ _ : Bk _ _ _ (nums triedL).toArray))⟩⟩
        case round =>
          obtain ⟨j, hj, rfl, HJ, HX⟩ := hrel
          cases gk with
          | zero =>
            obtain rfl : j = 12 := by omega
            have HE : Hid (true = res) := Lib.hid (by rw [HR2.out, ← HJ.out]; rfl)
            go_wp2_with fail
            (try rw [Exit.noGoto_ret])
            go_ret
            exact ⟨congrArg Ending.returned (congrArg Value.bool HE.out), HX.out.1⟩
          | succ k =>
            have hjN : j < 12 := by omega
            have hjn : (j : Int) < 12 := by omega
            obtain ⟨g, o, e, _, hc⟩ := HX.out.2.at (k := j) (by show j < 12; exact hjN)
            injection e with e; injection e with e1 e2 e3; subst e1; subst e2
            have hcx : wr.cell? ⟨w.heap.size, j, none⟩ = some (.int .u64 (triedL[j]'hjN)) := by rw [Nat.zero_add] at hc; rw [hc]; simp [nums]; rfl
            have HU := Lib.hid (triedL_U64 j hjN)
            have HJ2 : Hid ((passB n (triedL[j]'hjN) t && (triedL.drop (j + 1)).all (fun a => passB n a t)) = triedL.all (fun a => passB n a t)) := Lib.hid (by rw [← HJ.out, List.drop_eq_getElem_cons (show j < triedL.length from hjN), List.all_cons]; rfl)
            clear hc HJ
            generalize (triedL[j]'hjN) = a at hcx HU HJ2
            have HC := Lib.hid (fun w => HA2.out a w HU.out)
            cases hb : passB n a t with
            | true =>
              rw [hb] at HC HJ2
              have HJ3 : Hid ((triedL.drop (j + 1)).all (fun a => passB n a t) = triedL.all (fun a => passB n a t)) := Lib.hid (by rw [← HJ2.out]; rfl)
              go_wp2_with fail
              refine (HC.out _).mono ?_
              rintro e w' ⟨rfl, n2, rfl⟩
              go_wp2_with fail
              go_roundg k
              case measure => omega
              case rel => exact ⟨j + 1, by omega, by go_num, HJ3, Lib.hid ⟨HX.out.1.trans (drewN_grown _ _), HX.out.2.grown (drewN_grown _ _) (by simp)⟩⟩
            | false =>
              rw [hb] at HC HJ2
              have HE : Hid (false = res) := Lib.hid (by rw [HR2.out, ← HJ2.out]; rfl)
              go_wp2_with fail
              refine (HC.out _).mono ?_
              rintro e w' ⟨rfl, n2, rfl⟩
              go_wp2_with fail
              (try rw [Exit.noGoto_ret])
              go_ret
              exact ⟨congrArg Ending.returned (congrArg Value.bool HE.out), HX.out.1.trans (drewN_grown _ _)⟩
theorem refprime_any (n : Int) (w : World) : Calls Tryd.prog 61 #[.int .u64 n] w fun e w' => e = .returned (.bool (refPrimeB n)) ∧ w.grownBy w' none := by
  unfold refPrimeB
  split
  · rename_i h
    exact refprime_out n w h
  · rename_i h
    exact refprime_in n w (by omega) (by omega)
end Go.Proofs.YtlhjbllfcbojmaaDoor

namespace Go.Proofs.YtlhjbllfcbojmaaDoor
open Go.RowKit

/-- What is asked, one by one: true where it is refused. -/
def tests (p : Par) : List Bool := [decide (p.P < 2), decide (2305843009213693952 < p.P), decide (p.Q < 2), ((p.P - 1) % p.Q != 0), (p.G == 1), (p.H == 1), !(isB p p.G), !(isB p p.H), decide (p.T < 1), decide (2 < p.T), decide (p.N < 3 * p.T + 1), decide (7 < p.N), decide (p.Q ≤ p.N), decide (p.Nodes < p.N), decide (8 < p.Nodes), decide (p.K < 1), decide (2 < p.K), decide (p.D < 1), decide (4 < p.D), decide (p.R < 1), decide (p.D < p.R), decide (p.M < 1), decide (1048576 < p.M), decide (p.X < 1), decide (1048576 < p.X)]
def plainB (p : Par) : Bool := !((tests p).any id) && m8 p
set_option maxRecDepth 100000 in
set_option maxHeartbeats 1000000 in
theorem plain_0 (p : Par) (w : World) (hp : p.ok)  (h0 : (decide (p.P < 2)) = true) :
    Calls Tryd.prog 60 #[p.v] w fun e w' => e = .returned (.bool false) ∧ w.grownBy w' none := by
  have HB0 : Hid (Bk (w.alloc (.cells p.cells 24)) w.heap.size 24 p.cells) := Lib.hid (Bk.new w _ _)
  have HG0 : Hid (w.grownBy (w.alloc (.cells p.cells 24)) none) := Lib.hid (World.grownBy_alloc w _ none)
  have hp0 := HB0.out.prule
  obtain ⟨q0, q1⟩ := hp.Q
  obtain ⟨p0, p1⟩ := hp.P
  clear hp
  go_enter Tryd.func60, Tryd.ntmps60
  go_wp2_with fail
  go_ret
  exact ⟨rfl, HG0.out⟩
set_option maxRecDepth 100000 in
set_option maxHeartbeats 1000000 in
theorem plain_1 (p : Par) (w : World) (hp : p.ok) (h0 : (decide (p.P < 2)) = false) (h1 : (decide (2305843009213693952 < p.P)) = true) :
    Calls Tryd.prog 60 #[p.v] w fun e w' => e = .returned (.bool false) ∧ w.grownBy w' none := by
  have HB0 : Hid (Bk (w.alloc (.cells p.cells 24)) w.heap.size 24 p.cells) := Lib.hid (Bk.new w _ _)
  have HG0 : Hid (w.grownBy (w.alloc (.cells p.cells 24)) none) := Lib.hid (World.grownBy_alloc w _ none)
  have hp0 := HB0.out.prule
  obtain ⟨q0, q1⟩ := hp.Q
  obtain ⟨p0, p1⟩ := hp.P
  clear hp
  go_enter Tryd.func60, Tryd.ntmps60
  go_wp2_with fail
  go_ret
  exact ⟨rfl, HG0.out⟩
set_option maxRecDepth 100000 in
set_option maxHeartbeats 1000000 in
theorem plain_2 (p : Par) (w : World) (hp : p.ok) (h0 : (decide (p.P < 2)) = false) (h1 : (decide (2305843009213693952 < p.P)) = false) (h2 : (decide (p.Q < 2)) = true) :
    Calls Tryd.prog 60 #[p.v] w fun e w' => e = .returned (.bool false) ∧ w.grownBy w' none := by
  have HB0 : Hid (Bk (w.alloc (.cells p.cells 24)) w.heap.size 24 p.cells) := Lib.hid (Bk.new w _ _)
  have HG0 : Hid (w.grownBy (w.alloc (.cells p.cells 24)) none) := Lib.hid (World.grownBy_alloc w _ none)
  have hp0 := HB0.out.prule
  obtain ⟨q0, q1⟩ := hp.Q
  obtain ⟨p0, p1⟩ := hp.P
  clear hp
  go_enter Tryd.func60, Tryd.ntmps60
  go_wp2_with fail
  go_ret
  exact ⟨rfl, HG0.out⟩
set_option maxRecDepth 100000 in
set_option maxHeartbeats 1000000 in
theorem plain_3 (p : Par) (w : World) (hp : p.ok) (h0 : (decide (p.P < 2)) = false) (h1 : (decide (2305843009213693952 < p.P)) = false) (h2 : (decide (p.Q < 2)) = false) (h3 : (((p.P - 1) % p.Q != 0)) = true) :
    Calls Tryd.prog 60 #[p.v] w fun e w' => e = .returned (.bool false) ∧ w.grownBy w' none := by
  have HB0 : Hid (Bk (w.alloc (.cells p.cells 24)) w.heap.size 24 p.cells) := Lib.hid (Bk.new w _ _)
  have HG0 : Hid (w.grownBy (w.alloc (.cells p.cells 24)) none) := Lib.hid (World.grownBy_alloc w _ none)
  have hp0 := HB0.out.prule
  obtain ⟨q0, q1⟩ := hp.Q
  obtain ⟨p0, p1⟩ := hp.P
  have f2 : ¬ p.Q < 2 := by simpa using h2
  have f0 : ¬ p.P < 2 := by simpa using h0
  clear hp
  go_enter Tryd.func60, Tryd.ntmps60
  go_wp2_with fail
  go_ret
  exact ⟨rfl, HG0.out⟩
set_option maxRecDepth 100000 in
set_option maxHeartbeats 1000000 in
theorem plain_4 (p : Par) (w : World) (hp : p.ok) (h0 : (decide (p.P < 2)) = false) (h1 : (decide (2305843009213693952 < p.P)) = false) (h2 : (decide (p.Q < 2)) = false) (h3 : (((p.P - 1) % p.Q != 0)) = false) (h4 : ((p.G == 1)) = true) :
    Calls Tryd.prog 60 #[p.v] w fun e w' => e = .returned (.bool false) ∧ w.grownBy w' none := by
  have HB0 : Hid (Bk (w.alloc (.cells p.cells 24)) w.heap.size 24 p.cells) := Lib.hid (Bk.new w _ _)
  have HG0 : Hid (w.grownBy (w.alloc (.cells p.cells 24)) none) := Lib.hid (World.grownBy_alloc w _ none)
  have hp0 := HB0.out.prule
  obtain ⟨q0, q1⟩ := hp.Q
  obtain ⟨p0, p1⟩ := hp.P
  have f2 : ¬ p.Q < 2 := by simpa using h2
  have f0 : ¬ p.P < 2 := by simpa using h0
  clear hp
  go_enter Tryd.func60, Tryd.ntmps60
  go_wp2_with fail
  go_ret
  exact ⟨rfl, HG0.out⟩
set_option maxRecDepth 100000 in
set_option maxHeartbeats 1000000 in
theorem plain_5 (p : Par) (w : World) (hp : p.ok) (h0 : (decide (p.P < 2)) = false) (h1 : (decide (2305843009213693952 < p.P)) = false) (h2 : (decide (p.Q < 2)) = false) (h3 : (((p.P - 1) % p.Q != 0)) = false) (h4 : ((p.G == 1)) = false) (h5 : ((p.H == 1)) = true) :
    Calls Tryd.prog 60 #[p.v] w fun e w' => e = .returned (.bool false) ∧ w.grownBy w' none := by
  have HB0 : Hid (Bk (w.alloc (.cells p.cells 24)) w.heap.size 24 p.cells) := Lib.hid (Bk.new w _ _)
  have HG0 : Hid (w.grownBy (w.alloc (.cells p.cells 24)) none) := Lib.hid (World.grownBy_alloc w _ none)
  have hp0 := HB0.out.prule
  obtain ⟨q0, q1⟩ := hp.Q
  obtain ⟨p0, p1⟩ := hp.P
  have f2 : ¬ p.Q < 2 := by simpa using h2
  have f0 : ¬ p.P < 2 := by simpa using h0
  clear hp
  go_enter Tryd.func60, Tryd.ntmps60
  go_wp2_with fail
  go_ret
  exact ⟨rfl, HG0.out⟩
set_option maxRecDepth 100000 in
set_option maxHeartbeats 1000000 in
theorem plain_6 (p : Par) (w : World) (hp : p.ok) (h0 : (decide (p.P < 2)) = false) (h1 : (decide (2305843009213693952 < p.P)) = false) (h2 : (decide (p.Q < 2)) = false) (h3 : (((p.P - 1) % p.Q != 0)) = false) (h4 : ((p.G == 1)) = false) (h5 : ((p.H == 1)) = false) (h6 : (!(isB p p.G)) = true) :
    Calls Tryd.prog 60 #[p.v] w fun e w' => e = .returned (.bool false) ∧ w.grownBy w' none := by
  have HB0 : Hid (Bk (w.alloc (.cells p.cells 24)) w.heap.size 24 p.cells) := Lib.hid (Bk.new w _ _)
  have HG0 : Hid (w.grownBy (w.alloc (.cells p.cells 24)) none) := Lib.hid (World.grownBy_alloc w _ none)
  have hp0 := HB0.out.prule
  obtain ⟨q0, q1⟩ := hp.Q
  obtain ⟨p0, p1⟩ := hp.P
  have HI1 := Lib.hid (fun w' => ris_any p p.G w' hp hp.G)
  have e6 : isB p p.G = false := by simpa using h6
  rw [e6] at HI1
  clear h6 e6
  have f2 : ¬ p.Q < 2 := by simpa using h2
  have f0 : ¬ p.P < 2 := by simpa using h0
  clear hp
  go_enter Tryd.func60, Tryd.ntmps60
  go_wp2_with fail
  refine (HI1.out _).mono ?_
  rintro e w1 ⟨rfl, hg⟩
  have HG1 := hidTrans hg HG0
  have HB1 := bkGrown hg HB0
  have hp1 := HB1.out.prule
  clear hg hp0
  go_wp2_with fail
  go_ret
  exact ⟨rfl, HG1.out⟩
set_option maxRecDepth 100000 in
set_option maxHeartbeats 1000000 in
theorem plain_7 (p : Par) (w : World) (hp : p.ok) (h0 : (decide (p.P < 2)) = false) (h1 : (decide (2305843009213693952 < p.P)) = false) (h2 : (decide (p.Q < 2)) = false) (h3 : (((p.P - 1) % p.Q != 0)) = false) (h4 : ((p.G == 1)) = false) (h5 : ((p.H == 1)) = false) (h6 : (!(isB p p.G)) = false) (h7 : (!(isB p p.H)) = true) :
    Calls Tryd.prog 60 #[p.v] w fun e w' => e = .returned (.bool false) ∧ w.grownBy w' none := by
  have HB0 : Hid (Bk (w.alloc (.cells p.cells 24)) w.heap.size 24 p.cells) := Lib.hid (Bk.new w _ _)
  have HG0 : Hid (w.grownBy (w.alloc (.cells p.cells 24)) none) := Lib.hid (World.grownBy_alloc w _ none)
  have hp0 := HB0.out.prule
  obtain ⟨q0, q1⟩ := hp.Q
  obtain ⟨p0, p1⟩ := hp.P
  have HI1 := Lib.hid (fun w' => ris_any p p.G w' hp hp.G)
  have HI2 := Lib.hid (fun w' => ris_any p p.H w' hp hp.H)
  have e6 : isB p p.G = true := by simpa using h6
  rw [e6] at HI1
  clear h6 e6
  have e7 : isB p p.H = false := by simpa using h7
  rw [e7] at HI2
  clear h7 e7
  have f2 : ¬ p.Q < 2 := by simpa using h2
  have f0 : ¬ p.P < 2 := by simpa using h0
  clear hp
  go_enter Tryd.func60, Tryd.ntmps60
  go_wp2_with fail
  refine (HI1.out _).mono ?_
  rintro e w1 ⟨rfl, hg⟩
  have HG1 := hidTrans hg HG0
  have HB1 := bkGrown hg HB0
  have hp1 := HB1.out.prule
  clear hg hp0
  go_wp2_with fail
  refine (HI2.out _).mono ?_
  rintro e w2 ⟨rfl, hg⟩
  have HG2 := hidTrans hg HG1
  have HB2 := bkGrown hg HB1
  have hp2 := HB2.out.prule
  clear hg hp1
  go_wp2_with fail
  go_ret
  exact ⟨rfl, HG2.out⟩
set_option maxRecDepth 100000 in
set_option maxHeartbeats 1000000 in
theorem plain_8 (p : Par) (w : World) (hp : p.ok) (h0 : (decide (p.P < 2)) = false) (h1 : (decide (2305843009213693952 < p.P)) = false) (h2 : (decide (p.Q < 2)) = false) (h3 : (((p.P - 1) % p.Q != 0)) = false) (h4 : ((p.G == 1)) = false) (h5 : ((p.H == 1)) = false) (h6 : (!(isB p p.G)) = false) (h7 : (!(isB p p.H)) = false) (h8 : (decide (p.T < 1)) = true) :
    Calls Tryd.prog 60 #[p.v] w fun e w' => e = .returned (.bool false) ∧ w.grownBy w' none := by
  have HB0 : Hid (Bk (w.alloc (.cells p.cells 24)) w.heap.size 24 p.cells) := Lib.hid (Bk.new w _ _)
  have HG0 : Hid (w.grownBy (w.alloc (.cells p.cells 24)) none) := Lib.hid (World.grownBy_alloc w _ none)
  have hp0 := HB0.out.prule
  obtain ⟨q0, q1⟩ := hp.Q
  obtain ⟨p0, p1⟩ := hp.P
  have HI1 := Lib.hid (fun w' => ris_any p p.G w' hp hp.G)
  have HI2 := Lib.hid (fun w' => ris_any p p.H w' hp hp.H)
  have e6 : isB p p.G = true := by simpa using h6
  rw [e6] at HI1
  clear h6 e6
  have e7 : isB p p.H = true := by simpa using h7
  rw [e7] at HI2
  clear h7 e7
  have f2 : ¬ p.Q < 2 := by simpa using h2
  have f0 : ¬ p.P < 2 := by simpa using h0
  clear hp
  go_enter Tryd.func60, Tryd.ntmps60
  go_wp2_with fail
  refine (HI1.out _).mono ?_
  rintro e w1 ⟨rfl, hg⟩
  have HG1 := hidTrans hg HG0
  have HB1 := bkGrown hg HB0
  have hp1 := HB1.out.prule
  clear hg hp0
  go_wp2_with fail
  refine (HI2.out _).mono ?_
  rintro e w2 ⟨rfl, hg⟩
  have HG2 := hidTrans hg HG1
  have HB2 := bkGrown hg HB1
  have hp2 := HB2.out.prule
  clear hg hp1
  go_wp2_with fail
  go_ret
  exact ⟨rfl, HG2.out⟩
set_option maxRecDepth 100000 in
set_option maxHeartbeats 1000000 in
theorem plain_9 (p : Par) (w : World) (hp : p.ok) (h0 : (decide (p.P < 2)) = false) (h1 : (decide (2305843009213693952 < p.P)) = false) (h2 : (decide (p.Q < 2)) = false) (h3 : (((p.P - 1) % p.Q != 0)) = false) (h4 : ((p.G == 1)) = false) (h5 : ((p.H == 1)) = false) (h6 : (!(isB p p.G)) = false) (h7 : (!(isB p p.H)) = false) (h8 : (decide (p.T < 1)) = false) (h9 : (decide (2 < p.T)) = true) :
    Calls Tryd.prog 60 #[p.v] w fun e w' => e = .returned (.bool false) ∧ w.grownBy w' none := by
  have HB0 : Hid (Bk (w.alloc (.cells p.cells 24)) w.heap.size 24 p.cells) := Lib.hid (Bk.new w _ _)
  have HG0 : Hid (w.grownBy (w.alloc (.cells p.cells 24)) none) := Lib.hid (World.grownBy_alloc w _ none)
  have hp0 := HB0.out.prule
  obtain ⟨q0, q1⟩ := hp.Q
  obtain ⟨p0, p1⟩ := hp.P
  have HI1 := Lib.hid (fun w' => ris_any p p.G w' hp hp.G)
  have HI2 := Lib.hid (fun w' => ris_any p p.H w' hp hp.H)
  have e6 : isB p p.G = true := by simpa using h6
  rw [e6] at HI1
  clear h6 e6
  have e7 : isB p p.H = true := by simpa using h7
  rw [e7] at HI2
  clear h7 e7
  have f2 : ¬ p.Q < 2 := by simpa using h2
  have f0 : ¬ p.P < 2 := by simpa using h0
  clear hp
  go_enter Tryd.func60, Tryd.ntmps60
  go_wp2_with fail
  refine (HI1.out _).mono ?_
  rintro e w1 ⟨rfl, hg⟩
  have HG1 := hidTrans hg HG0
  have HB1 := bkGrown hg HB0
  have hp1 := HB1.out.prule
  clear hg hp0
  go_wp2_with fail
  refine (HI2.out _).mono ?_
  rintro e w2 ⟨rfl, hg⟩
  have HG2 := hidTrans hg HG1
  have HB2 := bkGrown hg HB1
  have hp2 := HB2.out.prule
  clear hg hp1
  go_wp2_with fail
  go_ret
  exact ⟨rfl, HG2.out⟩
set_option maxRecDepth 100000 in
set_option maxHeartbeats 1000000 in
theorem plain_10 (p : Par) (w : World) (hp : p.ok) (h0 : (decide (p.P < 2)) = false) (h1 : (decide (2305843009213693952 < p.P)) = false) (h2 : (decide (p.Q < 2)) = false) (h3 : (((p.P - 1) % p.Q != 0)) = false) (h4 : ((p.G == 1)) = false) (h5 : ((p.H == 1)) = false) (h6 : (!(isB p p.G)) = false) (h7 : (!(isB p p.H)) = false) (h8 : (decide (p.T < 1)) = false) (h9 : (decide (2 < p.T)) = false) (h10 : (decide (p.N < 3 * p.T + 1)) = true) :
    Calls Tryd.prog 60 #[p.v] w fun e w' => e = .returned (.bool false) ∧ w.grownBy w' none := by
  have HB0 : Hid (Bk (w.alloc (.cells p.cells 24)) w.heap.size 24 p.cells) := Lib.hid (Bk.new w _ _)
  have HG0 : Hid (w.grownBy (w.alloc (.cells p.cells 24)) none) := Lib.hid (World.grownBy_alloc w _ none)
  have hp0 := HB0.out.prule
  obtain ⟨q0, q1⟩ := hp.Q
  obtain ⟨p0, p1⟩ := hp.P
  have HI1 := Lib.hid (fun w' => ris_any p p.G w' hp hp.G)
  have HI2 := Lib.hid (fun w' => ris_any p p.H w' hp hp.H)
  have e6 : isB p p.G = true := by simpa using h6
  rw [e6] at HI1
  clear h6 e6
  have e7 : isB p p.H = true := by simpa using h7
  rw [e7] at HI2
  clear h7 e7
  have f2 : ¬ p.Q < 2 := by simpa using h2
  have f0 : ¬ p.P < 2 := by simpa using h0
  have f8 : ¬ p.T < 1 := by simpa using h8
  have f9 : ¬ 2 < p.T := by simpa using h9
  clear hp
  go_enter Tryd.func60, Tryd.ntmps60
  go_wp2_with fail
  refine (HI1.out _).mono ?_
  rintro e w1 ⟨rfl, hg⟩
  have HG1 := hidTrans hg HG0
  have HB1 := bkGrown hg HB0
  have hp1 := HB1.out.prule
  clear hg hp0
  go_wp2_with fail
  refine (HI2.out _).mono ?_
  rintro e w2 ⟨rfl, hg⟩
  have HG2 := hidTrans hg HG1
  have HB2 := bkGrown hg HB1
  have hp2 := HB2.out.prule
  clear hg hp1
  go_wp2_with fail
  go_ret
  exact ⟨rfl, HG2.out⟩
set_option maxRecDepth 100000 in
set_option maxHeartbeats 1000000 in
theorem plain_11 (p : Par) (w : World) (hp : p.ok) (h0 : (decide (p.P < 2)) = false) (h1 : (decide (2305843009213693952 < p.P)) = false) (h2 : (decide (p.Q < 2)) = false) (h3 : (((p.P - 1) % p.Q != 0)) = false) (h4 : ((p.G == 1)) = false) (h5 : ((p.H == 1)) = false) (h6 : (!(isB p p.G)) = false) (h7 : (!(isB p p.H)) = false) (h8 : (decide (p.T < 1)) = false) (h9 : (decide (2 < p.T)) = false) (h10 : (decide (p.N < 3 * p.T + 1)) = false) (h11 : (decide (7 < p.N)) = true) :
    Calls Tryd.prog 60 #[p.v] w fun e w' => e = .returned (.bool false) ∧ w.grownBy w' none := by
  have HB0 : Hid (Bk (w.alloc (.cells p.cells 24)) w.heap.size 24 p.cells) := Lib.hid (Bk.new w _ _)
  have HG0 : Hid (w.grownBy (w.alloc (.cells p.cells 24)) none) := Lib.hid (World.grownBy_alloc w _ none)
  have hp0 := HB0.out.prule
  obtain ⟨q0, q1⟩ := hp.Q
  obtain ⟨p0, p1⟩ := hp.P
  have HI1 := Lib.hid (fun w' => ris_any p p.G w' hp hp.G)
  have HI2 := Lib.hid (fun w' => ris_any p p.H w' hp hp.H)
  have e6 : isB p p.G = true := by simpa using h6
  rw [e6] at HI1
  clear h6 e6
  have e7 : isB p p.H = true := by simpa using h7
  rw [e7] at HI2
  clear h7 e7
  have f2 : ¬ p.Q < 2 := by simpa using h2
  have f0 : ¬ p.P < 2 := by simpa using h0
  have f8 : ¬ p.T < 1 := by simpa using h8
  have f9 : ¬ 2 < p.T := by simpa using h9
  clear hp
  go_enter Tryd.func60, Tryd.ntmps60
  go_wp2_with fail
  refine (HI1.out _).mono ?_
  rintro e w1 ⟨rfl, hg⟩
  have HG1 := hidTrans hg HG0
  have HB1 := bkGrown hg HB0
  have hp1 := HB1.out.prule
  clear hg hp0
  go_wp2_with fail
  refine (HI2.out _).mono ?_
  rintro e w2 ⟨rfl, hg⟩
  have HG2 := hidTrans hg HG1
  have HB2 := bkGrown hg HB1
  have hp2 := HB2.out.prule
  clear hg hp1
  go_wp2_with fail
  go_ret
  exact ⟨rfl, HG2.out⟩
set_option maxRecDepth 100000 in
set_option maxHeartbeats 1000000 in
theorem plain_12 (p : Par) (w : World) (hp : p.ok) (h0 : (decide (p.P < 2)) = false) (h1 : (decide (2305843009213693952 < p.P)) = false) (h2 : (decide (p.Q < 2)) = false) (h3 : (((p.P - 1) % p.Q != 0)) = false) (h4 : ((p.G == 1)) = false) (h5 : ((p.H == 1)) = false) (h6 : (!(isB p p.G)) = false) (h7 : (!(isB p p.H)) = false) (h8 : (decide (p.T < 1)) = false) (h9 : (decide (2 < p.T)) = false) (h10 : (decide (p.N < 3 * p.T + 1)) = false) (h11 : (decide (7 < p.N)) = false) (h12 : (decide (p.Q ≤ p.N)) = true) :
    Calls Tryd.prog 60 #[p.v] w fun e w' => e = .returned (.bool false) ∧ w.grownBy w' none := by
  have HB0 : Hid (Bk (w.alloc (.cells p.cells 24)) w.heap.size 24 p.cells) := Lib.hid (Bk.new w _ _)
  have HG0 : Hid (w.grownBy (w.alloc (.cells p.cells 24)) none) := Lib.hid (World.grownBy_alloc w _ none)
  have hp0 := HB0.out.prule
  obtain ⟨q0, q1⟩ := hp.Q
  obtain ⟨p0, p1⟩ := hp.P
  have HI1 := Lib.hid (fun w' => ris_any p p.G w' hp hp.G)
  have HI2 := Lib.hid (fun w' => ris_any p p.H w' hp hp.H)
  have e6 : isB p p.G = true := by simpa using h6
  rw [e6] at HI1
  clear h6 e6
  have e7 : isB p p.H = true := by simpa using h7
  rw [e7] at HI2
  clear h7 e7
  have f2 : ¬ p.Q < 2 := by simpa using h2
  have f0 : ¬ p.P < 2 := by simpa using h0
  have f8 : ¬ p.T < 1 := by simpa using h8
  have f9 : ¬ 2 < p.T := by simpa using h9
  have f10 : ¬ p.N < 3 * p.T + 1 := by simpa using h10
  have f11 : ¬ 7 < p.N := by simpa using h11
  clear hp
  go_enter Tryd.func60, Tryd.ntmps60
  go_wp2_with fail
  refine (HI1.out _).mono ?_
  rintro e w1 ⟨rfl, hg⟩
  have HG1 := hidTrans hg HG0
  have HB1 := bkGrown hg HB0
  have hp1 := HB1.out.prule
  clear hg hp0
  go_wp2_with fail
  refine (HI2.out _).mono ?_
  rintro e w2 ⟨rfl, hg⟩
  have HG2 := hidTrans hg HG1
  have HB2 := bkGrown hg HB1
  have hp2 := HB2.out.prule
  clear hg hp1
  go_wp2_with fail
  go_ret
  exact ⟨rfl, HG2.out⟩
set_option maxRecDepth 100000 in
set_option maxHeartbeats 1000000 in
theorem plain_13 (p : Par) (w : World) (hp : p.ok) (h0 : (decide (p.P < 2)) = false) (h1 : (decide (2305843009213693952 < p.P)) = false) (h2 : (decide (p.Q < 2)) = false) (h3 : (((p.P - 1) % p.Q != 0)) = false) (h4 : ((p.G == 1)) = false) (h5 : ((p.H == 1)) = false) (h6 : (!(isB p p.G)) = false) (h7 : (!(isB p p.H)) = false) (h8 : (decide (p.T < 1)) = false) (h9 : (decide (2 < p.T)) = false) (h10 : (decide (p.N < 3 * p.T + 1)) = false) (h11 : (decide (7 < p.N)) = false) (h12 : (decide (p.Q ≤ p.N)) = false) (h13 : (decide (p.Nodes < p.N)) = true) :
    Calls Tryd.prog 60 #[p.v] w fun e w' => e = .returned (.bool false) ∧ w.grownBy w' none := by
  have HB0 : Hid (Bk (w.alloc (.cells p.cells 24)) w.heap.size 24 p.cells) := Lib.hid (Bk.new w _ _)
  have HG0 : Hid (w.grownBy (w.alloc (.cells p.cells 24)) none) := Lib.hid (World.grownBy_alloc w _ none)
  have hp0 := HB0.out.prule
  obtain ⟨q0, q1⟩ := hp.Q
  obtain ⟨p0, p1⟩ := hp.P
  have HI1 := Lib.hid (fun w' => ris_any p p.G w' hp hp.G)
  have HI2 := Lib.hid (fun w' => ris_any p p.H w' hp hp.H)
  have e6 : isB p p.G = true := by simpa using h6
  rw [e6] at HI1
  clear h6 e6
  have e7 : isB p p.H = true := by simpa using h7
  rw [e7] at HI2
  clear h7 e7
  have f2 : ¬ p.Q < 2 := by simpa using h2
  have f0 : ¬ p.P < 2 := by simpa using h0
  have f8 : ¬ p.T < 1 := by simpa using h8
  have f9 : ¬ 2 < p.T := by simpa using h9
  have f10 : ¬ p.N < 3 * p.T + 1 := by simpa using h10
  have f11 : ¬ 7 < p.N := by simpa using h11
  clear hp
  go_enter Tryd.func60, Tryd.ntmps60
  go_wp2_with fail
  refine (HI1.out _).mono ?_
  rintro e w1 ⟨rfl, hg⟩
  have HG1 := hidTrans hg HG0
  have HB1 := bkGrown hg HB0
  have hp1 := HB1.out.prule
  clear hg hp0
  go_wp2_with fail
  refine (HI2.out _).mono ?_
  rintro e w2 ⟨rfl, hg⟩
  have HG2 := hidTrans hg HG1
  have HB2 := bkGrown hg HB1
  have hp2 := HB2.out.prule
  clear hg hp1
  go_wp2_with fail
  go_ret
  exact ⟨rfl, HG2.out⟩
set_option maxRecDepth 100000 in
set_option maxHeartbeats 1000000 in
theorem plain_14 (p : Par) (w : World) (hp : p.ok) (h0 : (decide (p.P < 2)) = false) (h1 : (decide (2305843009213693952 < p.P)) = false) (h2 : (decide (p.Q < 2)) = false) (h3 : (((p.P - 1) % p.Q != 0)) = false) (h4 : ((p.G == 1)) = false) (h5 : ((p.H == 1)) = false) (h6 : (!(isB p p.G)) = false) (h7 : (!(isB p p.H)) = false) (h8 : (decide (p.T < 1)) = false) (h9 : (decide (2 < p.T)) = false) (h10 : (decide (p.N < 3 * p.T + 1)) = false) (h11 : (decide (7 < p.N)) = false) (h12 : (decide (p.Q ≤ p.N)) = false) (h13 : (decide (p.Nodes < p.N)) = false) (h14 : (decide (8 < p.Nodes)) = true) :
    Calls Tryd.prog 60 #[p.v] w fun e w' => e = .returned (.bool false) ∧ w.grownBy w' none := by
  have HB0 : Hid (Bk (w.alloc (.cells p.cells 24)) w.heap.size 24 p.cells) := Lib.hid (Bk.new w _ _)
  have HG0 : Hid (w.grownBy (w.alloc (.cells p.cells 24)) none) := Lib.hid (World.grownBy_alloc w _ none)
  have hp0 := HB0.out.prule
  obtain ⟨q0, q1⟩ := hp.Q
  obtain ⟨p0, p1⟩ := hp.P
  have HI1 := Lib.hid (fun w' => ris_any p p.G w' hp hp.G)
  have HI2 := Lib.hid (fun w' => ris_any p p.H w' hp hp.H)
  have e6 : isB p p.G = true := by simpa using h6
  rw [e6] at HI1
  clear h6 e6
  have e7 : isB p p.H = true := by simpa using h7
  rw [e7] at HI2
  clear h7 e7
  have f2 : ¬ p.Q < 2 := by simpa using h2
  have f0 : ¬ p.P < 2 := by simpa using h0
  have f8 : ¬ p.T < 1 := by simpa using h8
  have f9 : ¬ 2 < p.T := by simpa using h9
  have f10 : ¬ p.N < 3 * p.T + 1 := by simpa using h10
  have f11 : ¬ 7 < p.N := by simpa using h11
  clear hp
  go_enter Tryd.func60, Tryd.ntmps60
  go_wp2_with fail
  refine (HI1.out _).mono ?_
  rintro e w1 ⟨rfl, hg⟩
  have HG1 := hidTrans hg HG0
  have HB1 := bkGrown hg HB0
  have hp1 := HB1.out.prule
  clear hg hp0
  go_wp2_with fail
  refine (HI2.out _).mono ?_
  rintro e w2 ⟨rfl, hg⟩
  have HG2 := hidTrans hg HG1
  have HB2 := bkGrown hg HB1
  have hp2 := HB2.out.prule
  clear hg hp1
  go_wp2_with fail
  go_ret
  exact ⟨rfl, HG2.out⟩
set_option maxRecDepth 100000 in
set_option maxHeartbeats 1000000 in
theorem plain_15 (p : Par) (w : World) (hp : p.ok) (h0 : (decide (p.P < 2)) = false) (h1 : (decide (2305843009213693952 < p.P)) = false) (h2 : (decide (p.Q < 2)) = false) (h3 : (((p.P - 1) % p.Q != 0)) = false) (h4 : ((p.G == 1)) = false) (h5 : ((p.H == 1)) = false) (h6 : (!(isB p p.G)) = false) (h7 : (!(isB p p.H)) = false) (h8 : (decide (p.T < 1)) = false) (h9 : (decide (2 < p.T)) = false) (h10 : (decide (p.N < 3 * p.T + 1)) = false) (h11 : (decide (7 < p.N)) = false) (h12 : (decide (p.Q ≤ p.N)) = false) (h13 : (decide (p.Nodes < p.N)) = false) (h14 : (decide (8 < p.Nodes)) = false) (h15 : (decide (p.K < 1)) = true) :
    Calls Tryd.prog 60 #[p.v] w fun e w' => e = .returned (.bool false) ∧ w.grownBy w' none := by
  have HB0 : Hid (Bk (w.alloc (.cells p.cells 24)) w.heap.size 24 p.cells) := Lib.hid (Bk.new w _ _)
  have HG0 : Hid (w.grownBy (w.alloc (.cells p.cells 24)) none) := Lib.hid (World.grownBy_alloc w _ none)
  have hp0 := HB0.out.prule
  obtain ⟨q0, q1⟩ := hp.Q
  obtain ⟨p0, p1⟩ := hp.P
  have HI1 := Lib.hid (fun w' => ris_any p p.G w' hp hp.G)
  have HI2 := Lib.hid (fun w' => ris_any p p.H w' hp hp.H)
  have e6 : isB p p.G = true := by simpa using h6
  rw [e6] at HI1
  clear h6 e6
  have e7 : isB p p.H = true := by simpa using h7
  rw [e7] at HI2
  clear h7 e7
  have f2 : ¬ p.Q < 2 := by simpa using h2
  have f0 : ¬ p.P < 2 := by simpa using h0
  have f8 : ¬ p.T < 1 := by simpa using h8
  have f9 : ¬ 2 < p.T := by simpa using h9
  have f10 : ¬ p.N < 3 * p.T + 1 := by simpa using h10
  have f11 : ¬ 7 < p.N := by simpa using h11
  clear hp
  go_enter Tryd.func60, Tryd.ntmps60
  go_wp2_with fail
  refine (HI1.out _).mono ?_
  rintro e w1 ⟨rfl, hg⟩
  have HG1 := hidTrans hg HG0
  have HB1 := bkGrown hg HB0
  have hp1 := HB1.out.prule
  clear hg hp0
  go_wp2_with fail
  refine (HI2.out _).mono ?_
  rintro e w2 ⟨rfl, hg⟩
  have HG2 := hidTrans hg HG1
  have HB2 := bkGrown hg HB1
  have hp2 := HB2.out.prule
  clear hg hp1
  go_wp2_with fail
  go_ret
  exact ⟨rfl, HG2.out⟩
set_option maxRecDepth 100000 in
set_option maxHeartbeats 1000000 in
theorem plain_16 (p : Par) (w : World) (hp : p.ok) (h0 : (decide (p.P < 2)) = false) (h1 : (decide (2305843009213693952 < p.P)) = false) (h2 : (decide (p.Q < 2)) = false) (h3 : (((p.P - 1) % p.Q != 0)) = false) (h4 : ((p.G == 1)) = false) (h5 : ((p.H == 1)) = false) (h6 : (!(isB p p.G)) = false) (h7 : (!(isB p p.H)) = false) (h8 : (decide (p.T < 1)) = false) (h9 : (decide (2 < p.T)) = false) (h10 : (decide (p.N < 3 * p.T + 1)) = false) (h11 : (decide (7 < p.N)) = false) (h12 : (decide (p.Q ≤ p.N)) = false) (h13 : (decide (p.Nodes < p.N)) = false) (h14 : (decide (8 < p.Nodes)) = false) (h15 : (decide (p.K < 1)) = false) (h16 : (decide (2 < p.K)) = true) :
    Calls Tryd.prog 60 #[p.v] w fun e w' => e = .returned (.bool false) ∧ w.grownBy w' none := by
  have HB0 : Hid (Bk (w.alloc (.cells p.cells 24)) w.heap.size 24 p.cells) := Lib.hid (Bk.new w _ _)
  have HG0 : Hid (w.grownBy (w.alloc (.cells p.cells 24)) none) := Lib.hid (World.grownBy_alloc w _ none)
  have hp0 := HB0.out.prule
  obtain ⟨q0, q1⟩ := hp.Q
  obtain ⟨p0, p1⟩ := hp.P
  have HI1 := Lib.hid (fun w' => ris_any p p.G w' hp hp.G)
  have HI2 := Lib.hid (fun w' => ris_any p p.H w' hp hp.H)
  have e6 : isB p p.G = true := by simpa using h6
  rw [e6] at HI1
  clear h6 e6
  have e7 : isB p p.H = true := by simpa using h7
  rw [e7] at HI2
  clear h7 e7
  have f2 : ¬ p.Q < 2 := by simpa using h2
  have f0 : ¬ p.P < 2 := by simpa using h0
  have f8 : ¬ p.T < 1 := by simpa using h8
  have f9 : ¬ 2 < p.T := by simpa using h9
  have f10 : ¬ p.N < 3 * p.T + 1 := by simpa using h10
  have f11 : ¬ 7 < p.N := by simpa using h11
  clear hp
  go_enter Tryd.func60, Tryd.ntmps60
  go_wp2_with fail
  refine (HI1.out _).mono ?_
  rintro e w1 ⟨rfl, hg⟩
  have HG1 := hidTrans hg HG0
  have HB1 := bkGrown hg HB0
  have hp1 := HB1.out.prule
  clear hg hp0
  go_wp2_with fail
  refine (HI2.out _).mono ?_
  rintro e w2 ⟨rfl, hg⟩
  have HG2 := hidTrans hg HG1
  have HB2 := bkGrown hg HB1
  have hp2 := HB2.out.prule
  clear hg hp1
  go_wp2_with fail
  go_ret
  exact ⟨rfl, HG2.out⟩
set_option maxRecDepth 100000 in
set_option maxHeartbeats 1000000 in
theorem plain_17 (p : Par) (w : World) (hp : p.ok) (h0 : (decide (p.P < 2)) = false) (h1 : (decide (2305843009213693952 < p.P)) = false) (h2 : (decide (p.Q < 2)) = false) (h3 : (((p.P - 1) % p.Q != 0)) = false) (h4 : ((p.G == 1)) = false) (h5 : ((p.H == 1)) = false) (h6 : (!(isB p p.G)) = false) (h7 : (!(isB p p.H)) = false) (h8 : (decide (p.T < 1)) = false) (h9 : (decide (2 < p.T)) = false) (h10 : (decide (p.N < 3 * p.T + 1)) = false) (h11 : (decide (7 < p.N)) = false) (h12 : (decide (p.Q ≤ p.N)) = false) (h13 : (decide (p.Nodes < p.N)) = false) (h14 : (decide (8 < p.Nodes)) = false) (h15 : (decide (p.K < 1)) = false) (h16 : (decide (2 < p.K)) = false) (h17 : (decide (p.D < 1)) = true) :
    Calls Tryd.prog 60 #[p.v] w fun e w' => e = .returned (.bool false) ∧ w.grownBy w' none := by
  have HB0 : Hid (Bk (w.alloc (.cells p.cells 24)) w.heap.size 24 p.cells) := Lib.hid (Bk.new w _ _)
  have HG0 : Hid (w.grownBy (w.alloc (.cells p.cells 24)) none) := Lib.hid (World.grownBy_alloc w _ none)
  have hp0 := HB0.out.prule
  obtain ⟨q0, q1⟩ := hp.Q
  obtain ⟨p0, p1⟩ := hp.P
  have HI1 := Lib.hid (fun w' => ris_any p p.G w' hp hp.G)
  have HI2 := Lib.hid (fun w' => ris_any p p.H w' hp hp.H)
  have e6 : isB p p.G = true := by simpa using h6
  rw [e6] at HI1
  clear h6 e6
  have e7 : isB p p.H = true := by simpa using h7
  rw [e7] at HI2
  clear h7 e7
  have f2 : ¬ p.Q < 2 := by simpa using h2
  have f0 : ¬ p.P < 2 := by simpa using h0
  have f8 : ¬ p.T < 1 := by simpa using h8
  have f9 : ¬ 2 < p.T := by simpa using h9
  have f10 : ¬ p.N < 3 * p.T + 1 := by simpa using h10
  have f11 : ¬ 7 < p.N := by simpa using h11
  clear hp
  go_enter Tryd.func60, Tryd.ntmps60
  go_wp2_with fail
  refine (HI1.out _).mono ?_
  rintro e w1 ⟨rfl, hg⟩
  have HG1 := hidTrans hg HG0
  have HB1 := bkGrown hg HB0
  have hp1 := HB1.out.prule
  clear hg hp0
  go_wp2_with fail
  refine (HI2.out _).mono ?_
  rintro e w2 ⟨rfl, hg⟩
  have HG2 := hidTrans hg HG1
  have HB2 := bkGrown hg HB1
  have hp2 := HB2.out.prule
  clear hg hp1
  go_wp2_with fail
  go_ret
  exact ⟨rfl, HG2.out⟩
set_option maxRecDepth 100000 in
set_option maxHeartbeats 1000000 in
theorem plain_18 (p : Par) (w : World) (hp : p.ok) (h0 : (decide (p.P < 2)) = false) (h1 : (decide (2305843009213693952 < p.P)) = false) (h2 : (decide (p.Q < 2)) = false) (h3 : (((p.P - 1) % p.Q != 0)) = false) (h4 : ((p.G == 1)) = false) (h5 : ((p.H == 1)) = false) (h6 : (!(isB p p.G)) = false) (h7 : (!(isB p p.H)) = false) (h8 : (decide (p.T < 1)) = false) (h9 : (decide (2 < p.T)) = false) (h10 : (decide (p.N < 3 * p.T + 1)) = false) (h11 : (decide (7 < p.N)) = false) (h12 : (decide (p.Q ≤ p.N)) = false) (h13 : (decide (p.Nodes < p.N)) = false) (h14 : (decide (8 < p.Nodes)) = false) (h15 : (decide (p.K < 1)) = false) (h16 : (decide (2 < p.K)) = false) (h17 : (decide (p.D < 1)) = false) (h18 : (decide (4 < p.D)) = true) :
    Calls Tryd.prog 60 #[p.v] w fun e w' => e = .returned (.bool false) ∧ w.grownBy w' none := by
  have HB0 : Hid (Bk (w.alloc (.cells p.cells 24)) w.heap.size 24 p.cells) := Lib.hid (Bk.new w _ _)
  have HG0 : Hid (w.grownBy (w.alloc (.cells p.cells 24)) none) := Lib.hid (World.grownBy_alloc w _ none)
  have hp0 := HB0.out.prule
  obtain ⟨q0, q1⟩ := hp.Q
  obtain ⟨p0, p1⟩ := hp.P
  have HI1 := Lib.hid (fun w' => ris_any p p.G w' hp hp.G)
  have HI2 := Lib.hid (fun w' => ris_any p p.H w' hp hp.H)
  have e6 : isB p p.G = true := by simpa using h6
  rw [e6] at HI1
  clear h6 e6
  have e7 : isB p p.H = true := by simpa using h7
  rw [e7] at HI2
  clear h7 e7
  have f2 : ¬ p.Q < 2 := by simpa using h2
  have f0 : ¬ p.P < 2 := by simpa using h0
  have f8 : ¬ p.T < 1 := by simpa using h8
  have f9 : ¬ 2 < p.T := by simpa using h9
  have f10 : ¬ p.N < 3 * p.T + 1 := by simpa using h10
  have f11 : ¬ 7 < p.N := by simpa using h11
  clear hp
  go_enter Tryd.func60, Tryd.ntmps60
  go_wp2_with fail
  refine (HI1.out _).mono ?_
  rintro e w1 ⟨rfl, hg⟩
  have HG1 := hidTrans hg HG0
  have HB1 := bkGrown hg HB0
  have hp1 := HB1.out.prule
  clear hg hp0
  go_wp2_with fail
  refine (HI2.out _).mono ?_
  rintro e w2 ⟨rfl, hg⟩
  have HG2 := hidTrans hg HG1
  have HB2 := bkGrown hg HB1
  have hp2 := HB2.out.prule
  clear hg hp1
  go_wp2_with fail
  go_ret
  exact ⟨rfl, HG2.out⟩
set_option maxRecDepth 100000 in
set_option maxHeartbeats 1000000 in
theorem plain_19 (p : Par) (w : World) (hp : p.ok) (h0 : (decide (p.P < 2)) = false) (h1 : (decide (2305843009213693952 < p.P)) = false) (h2 : (decide (p.Q < 2)) = false) (h3 : (((p.P - 1) % p.Q != 0)) = false) (h4 : ((p.G == 1)) = false) (h5 : ((p.H == 1)) = false) (h6 : (!(isB p p.G)) = false) (h7 : (!(isB p p.H)) = false) (h8 : (decide (p.T < 1)) = false) (h9 : (decide (2 < p.T)) = false) (h10 : (decide (p.N < 3 * p.T + 1)) = false) (h11 : (decide (7 < p.N)) = false) (h12 : (decide (p.Q ≤ p.N)) = false) (h13 : (decide (p.Nodes < p.N)) = false) (h14 : (decide (8 < p.Nodes)) = false) (h15 : (decide (p.K < 1)) = false) (h16 : (decide (2 < p.K)) = false) (h17 : (decide (p.D < 1)) = false) (h18 : (decide (4 < p.D)) = false) (h19 : (decide (p.R < 1)) = true) :
    Calls Tryd.prog 60 #[p.v] w fun e w' => e = .returned (.bool false) ∧ w.grownBy w' none := by
  have HB0 : Hid (Bk (w.alloc (.cells p.cells 24)) w.heap.size 24 p.cells) := Lib.hid (Bk.new w _ _)
  have HG0 : Hid (w.grownBy (w.alloc (.cells p.cells 24)) none) := Lib.hid (World.grownBy_alloc w _ none)
  have hp0 := HB0.out.prule
  obtain ⟨q0, q1⟩ := hp.Q
  obtain ⟨p0, p1⟩ := hp.P
  have HI1 := Lib.hid (fun w' => ris_any p p.G w' hp hp.G)
  have HI2 := Lib.hid (fun w' => ris_any p p.H w' hp hp.H)
  have e6 : isB p p.G = true := by simpa using h6
  rw [e6] at HI1
  clear h6 e6
  have e7 : isB p p.H = true := by simpa using h7
  rw [e7] at HI2
  clear h7 e7
  have f2 : ¬ p.Q < 2 := by simpa using h2
  have f0 : ¬ p.P < 2 := by simpa using h0
  have f8 : ¬ p.T < 1 := by simpa using h8
  have f9 : ¬ 2 < p.T := by simpa using h9
  have f10 : ¬ p.N < 3 * p.T + 1 := by simpa using h10
  have f11 : ¬ 7 < p.N := by simpa using h11
  clear hp
  go_enter Tryd.func60, Tryd.ntmps60
  go_wp2_with fail
  refine (HI1.out _).mono ?_
  rintro e w1 ⟨rfl, hg⟩
  have HG1 := hidTrans hg HG0
  have HB1 := bkGrown hg HB0
  have hp1 := HB1.out.prule
  clear hg hp0
  go_wp2_with fail
  refine (HI2.out _).mono ?_
  rintro e w2 ⟨rfl, hg⟩
  have HG2 := hidTrans hg HG1
  have HB2 := bkGrown hg HB1
  have hp2 := HB2.out.prule
  clear hg hp1
  go_wp2_with fail
  go_ret
  exact ⟨rfl, HG2.out⟩
set_option maxRecDepth 100000 in
set_option maxHeartbeats 1000000 in
theorem plain_20 (p : Par) (w : World) (hp : p.ok) (h0 : (decide (p.P < 2)) = false) (h1 : (decide (2305843009213693952 < p.P)) = false) (h2 : (decide (p.Q < 2)) = false) (h3 : (((p.P - 1) % p.Q != 0)) = false) (h4 : ((p.G == 1)) = false) (h5 : ((p.H == 1)) = false) (h6 : (!(isB p p.G)) = false) (h7 : (!(isB p p.H)) = false) (h8 : (decide (p.T < 1)) = false) (h9 : (decide (2 < p.T)) = false) (h10 : (decide (p.N < 3 * p.T + 1)) = false) (h11 : (decide (7 < p.N)) = false) (h12 : (decide (p.Q ≤ p.N)) = false) (h13 : (decide (p.Nodes < p.N)) = false) (h14 : (decide (8 < p.Nodes)) = false) (h15 : (decide (p.K < 1)) = false) (h16 : (decide (2 < p.K)) = false) (h17 : (decide (p.D < 1)) = false) (h18 : (decide (4 < p.D)) = false) (h19 : (decide (p.R < 1)) = false) (h20 : (decide (p.D < p.R)) = true) :
    Calls Tryd.prog 60 #[p.v] w fun e w' => e = .returned (.bool false) ∧ w.grownBy w' none := by
  have HB0 : Hid (Bk (w.alloc (.cells p.cells 24)) w.heap.size 24 p.cells) := Lib.hid (Bk.new w _ _)
  have HG0 : Hid (w.grownBy (w.alloc (.cells p.cells 24)) none) := Lib.hid (World.grownBy_alloc w _ none)
  have hp0 := HB0.out.prule
  obtain ⟨q0, q1⟩ := hp.Q
  obtain ⟨p0, p1⟩ := hp.P
  have HI1 := Lib.hid (fun w' => ris_any p p.G w' hp hp.G)
  have HI2 := Lib.hid (fun w' => ris_any p p.H w' hp hp.H)
  have e6 : isB p p.G = true := by simpa using h6
  rw [e6] at HI1
  clear h6 e6
  have e7 : isB p p.H = true := by simpa using h7
  rw [e7] at HI2
  clear h7 e7
  have f2 : ¬ p.Q < 2 := by simpa using h2
  have f0 : ¬ p.P < 2 := by simpa using h0
  have f8 : ¬ p.T < 1 := by simpa using h8
  have f9 : ¬ 2 < p.T := by simpa using h9
  have f10 : ¬ p.N < 3 * p.T + 1 := by simpa using h10
  have f11 : ¬ 7 < p.N := by simpa using h11
  clear hp
  go_enter Tryd.func60, Tryd.ntmps60
  go_wp2_with fail
  refine (HI1.out _).mono ?_
  rintro e w1 ⟨rfl, hg⟩
  have HG1 := hidTrans hg HG0
  have HB1 := bkGrown hg HB0
  have hp1 := HB1.out.prule
  clear hg hp0
  go_wp2_with fail
  refine (HI2.out _).mono ?_
  rintro e w2 ⟨rfl, hg⟩
  have HG2 := hidTrans hg HG1
  have HB2 := bkGrown hg HB1
  have hp2 := HB2.out.prule
  clear hg hp1
  go_wp2_with fail
  go_ret
  exact ⟨rfl, HG2.out⟩
set_option maxRecDepth 100000 in
set_option maxHeartbeats 1000000 in
theorem plain_21 (p : Par) (w : World) (hp : p.ok) (h0 : (decide (p.P < 2)) = false) (h1 : (decide (2305843009213693952 < p.P)) = false) (h2 : (decide (p.Q < 2)) = false) (h3 : (((p.P - 1) % p.Q != 0)) = false) (h4 : ((p.G == 1)) = false) (h5 : ((p.H == 1)) = false) (h6 : (!(isB p p.G)) = false) (h7 : (!(isB p p.H)) = false) (h8 : (decide (p.T < 1)) = false) (h9 : (decide (2 < p.T)) = false) (h10 : (decide (p.N < 3 * p.T + 1)) = false) (h11 : (decide (7 < p.N)) = false) (h12 : (decide (p.Q ≤ p.N)) = false) (h13 : (decide (p.Nodes < p.N)) = false) (h14 : (decide (8 < p.Nodes)) = false) (h15 : (decide (p.K < 1)) = false) (h16 : (decide (2 < p.K)) = false) (h17 : (decide (p.D < 1)) = false) (h18 : (decide (4 < p.D)) = false) (h19 : (decide (p.R < 1)) = false) (h20 : (decide (p.D < p.R)) = false) (h21 : (decide (p.M < 1)) = true) :
    Calls Tryd.prog 60 #[p.v] w fun e w' => e = .returned (.bool false) ∧ w.grownBy w' none := by
  have HB0 : Hid (Bk (w.alloc (.cells p.cells 24)) w.heap.size 24 p.cells) := Lib.hid (Bk.new w _ _)
  have HG0 : Hid (w.grownBy (w.alloc (.cells p.cells 24)) none) := Lib.hid (World.grownBy_alloc w _ none)
  have hp0 := HB0.out.prule
  obtain ⟨q0, q1⟩ := hp.Q
  obtain ⟨p0, p1⟩ := hp.P
  have HI1 := Lib.hid (fun w' => ris_any p p.G w' hp hp.G)
  have HI2 := Lib.hid (fun w' => ris_any p p.H w' hp hp.H)
  have e6 : isB p p.G = true := by simpa using h6
  rw [e6] at HI1
  clear h6 e6
  have e7 : isB p p.H = true := by simpa using h7
  rw [e7] at HI2
  clear h7 e7
  have f2 : ¬ p.Q < 2 := by simpa using h2
  have f0 : ¬ p.P < 2 := by simpa using h0
  have f8 : ¬ p.T < 1 := by simpa using h8
  have f9 : ¬ 2 < p.T := by simpa using h9
  have f10 : ¬ p.N < 3 * p.T + 1 := by simpa using h10
  have f11 : ¬ 7 < p.N := by simpa using h11
  clear hp
  go_enter Tryd.func60, Tryd.ntmps60
  go_wp2_with fail
  refine (HI1.out _).mono ?_
  rintro e w1 ⟨rfl, hg⟩
  have HG1 := hidTrans hg HG0
  have HB1 := bkGrown hg HB0
  have hp1 := HB1.out.prule
  clear hg hp0
  go_wp2_with fail
  refine (HI2.out _).mono ?_
  rintro e w2 ⟨rfl, hg⟩
  have HG2 := hidTrans hg HG1
  have HB2 := bkGrown hg HB1
  have hp2 := HB2.out.prule
  clear hg hp1
  go_wp2_with fail
  go_ret
  exact ⟨rfl, HG2.out⟩
set_option maxRecDepth 100000 in
set_option maxHeartbeats 1000000 in
theorem plain_22 (p : Par) (w : World) (hp : p.ok) (h0 : (decide (p.P < 2)) = false) (h1 : (decide (2305843009213693952 < p.P)) = false) (h2 : (decide (p.Q < 2)) = false) (h3 : (((p.P - 1) % p.Q != 0)) = false) (h4 : ((p.G == 1)) = false) (h5 : ((p.H == 1)) = false) (h6 : (!(isB p p.G)) = false) (h7 : (!(isB p p.H)) = false) (h8 : (decide (p.T < 1)) = false) (h9 : (decide (2 < p.T)) = false) (h10 : (decide (p.N < 3 * p.T + 1)) = false) (h11 : (decide (7 < p.N)) = false) (h12 : (decide (p.Q ≤ p.N)) = false) (h13 : (decide (p.Nodes < p.N)) = false) (h14 : (decide (8 < p.Nodes)) = false) (h15 : (decide (p.K < 1)) = false) (h16 : (decide (2 < p.K)) = false) (h17 : (decide (p.D < 1)) = false) (h18 : (decide (4 < p.D)) = false) (h19 : (decide (p.R < 1)) = false) (h20 : (decide (p.D < p.R)) = false) (h21 : (decide (p.M < 1)) = false) (h22 : (decide (1048576 < p.M)) = true) :
    Calls Tryd.prog 60 #[p.v] w fun e w' => e = .returned (.bool false) ∧ w.grownBy w' none := by
  have HB0 : Hid (Bk (w.alloc (.cells p.cells 24)) w.heap.size 24 p.cells) := Lib.hid (Bk.new w _ _)
  have HG0 : Hid (w.grownBy (w.alloc (.cells p.cells 24)) none) := Lib.hid (World.grownBy_alloc w _ none)
  have hp0 := HB0.out.prule
  obtain ⟨q0, q1⟩ := hp.Q
  obtain ⟨p0, p1⟩ := hp.P
  have HI1 := Lib.hid (fun w' => ris_any p p.G w' hp hp.G)
  have HI2 := Lib.hid (fun w' => ris_any p p.H w' hp hp.H)
  have e6 : isB p p.G = true := by simpa using h6
  rw [e6] at HI1
  clear h6 e6
  have e7 : isB p p.H = true := by simpa using h7
  rw [e7] at HI2
  clear h7 e7
  have f2 : ¬ p.Q < 2 := by simpa using h2
  have f0 : ¬ p.P < 2 := by simpa using h0
  have f8 : ¬ p.T < 1 := by simpa using h8
  have f9 : ¬ 2 < p.T := by simpa using h9
  have f10 : ¬ p.N < 3 * p.T + 1 := by simpa using h10
  have f11 : ¬ 7 < p.N := by simpa using h11
  clear hp
  go_enter Tryd.func60, Tryd.ntmps60
  go_wp2_with fail
  refine (HI1.out _).mono ?_
  rintro e w1 ⟨rfl, hg⟩
  have HG1 := hidTrans hg HG0
  have HB1 := bkGrown hg HB0
  have hp1 := HB1.out.prule
  clear hg hp0
  go_wp2_with fail
  refine (HI2.out _).mono ?_
  rintro e w2 ⟨rfl, hg⟩
  have HG2 := hidTrans hg HG1
  have HB2 := bkGrown hg HB1
  have hp2 := HB2.out.prule
  clear hg hp1
  go_wp2_with fail
  go_ret
  exact ⟨rfl, HG2.out⟩
set_option maxRecDepth 100000 in
set_option maxHeartbeats 1000000 in
theorem plain_23 (p : Par) (w : World) (hp : p.ok) (h0 : (decide (p.P < 2)) = false) (h1 : (decide (2305843009213693952 < p.P)) = false) (h2 : (decide (p.Q < 2)) = false) (h3 : (((p.P - 1) % p.Q != 0)) = false) (h4 : ((p.G == 1)) = false) (h5 : ((p.H == 1)) = false) (h6 : (!(isB p p.G)) = false) (h7 : (!(isB p p.H)) = false) (h8 : (decide (p.T < 1)) = false) (h9 : (decide (2 < p.T)) = false) (h10 : (decide (p.N < 3 * p.T + 1)) = false) (h11 : (decide (7 < p.N)) = false) (h12 : (decide (p.Q ≤ p.N)) = false) (h13 : (decide (p.Nodes < p.N)) = false) (h14 : (decide (8 < p.Nodes)) = false) (h15 : (decide (p.K < 1)) = false) (h16 : (decide (2 < p.K)) = false) (h17 : (decide (p.D < 1)) = false) (h18 : (decide (4 < p.D)) = false) (h19 : (decide (p.R < 1)) = false) (h20 : (decide (p.D < p.R)) = false) (h21 : (decide (p.M < 1)) = false) (h22 : (decide (1048576 < p.M)) = false) (h23 : (decide (p.X < 1)) = true) :
    Calls Tryd.prog 60 #[p.v] w fun e w' => e = .returned (.bool false) ∧ w.grownBy w' none := by
  have HB0 : Hid (Bk (w.alloc (.cells p.cells 24)) w.heap.size 24 p.cells) := Lib.hid (Bk.new w _ _)
  have HG0 : Hid (w.grownBy (w.alloc (.cells p.cells 24)) none) := Lib.hid (World.grownBy_alloc w _ none)
  have hp0 := HB0.out.prule
  obtain ⟨q0, q1⟩ := hp.Q
  obtain ⟨p0, p1⟩ := hp.P
  have HI1 := Lib.hid (fun w' => ris_any p p.G w' hp hp.G)
  have HI2 := Lib.hid (fun w' => ris_any p p.H w' hp hp.H)
  have e6 : isB p p.G = true := by simpa using h6
  rw [e6] at HI1
  clear h6 e6
  have e7 : isB p p.H = true := by simpa using h7
  rw [e7] at HI2
  clear h7 e7
  have f2 : ¬ p.Q < 2 := by simpa using h2
  have f0 : ¬ p.P < 2 := by simpa using h0
  have f8 : ¬ p.T < 1 := by simpa using h8
  have f9 : ¬ 2 < p.T := by simpa using h9
  have f10 : ¬ p.N < 3 * p.T + 1 := by simpa using h10
  have f11 : ¬ 7 < p.N := by simpa using h11
  clear hp
  go_enter Tryd.func60, Tryd.ntmps60
  go_wp2_with fail
  refine (HI1.out _).mono ?_
  rintro e w1 ⟨rfl, hg⟩
  have HG1 := hidTrans hg HG0
  have HB1 := bkGrown hg HB0
  have hp1 := HB1.out.prule
  clear hg hp0
  go_wp2_with fail
  refine (HI2.out _).mono ?_
  rintro e w2 ⟨rfl, hg⟩
  have HG2 := hidTrans hg HG1
  have HB2 := bkGrown hg HB1
  have hp2 := HB2.out.prule
  clear hg hp1
  go_wp2_with fail
  go_ret
  exact ⟨rfl, HG2.out⟩
set_option maxRecDepth 100000 in
set_option maxHeartbeats 1000000 in
theorem plain_24 (p : Par) (w : World) (hp : p.ok) (h0 : (decide (p.P < 2)) = false) (h1 : (decide (2305843009213693952 < p.P)) = false) (h2 : (decide (p.Q < 2)) = false) (h3 : (((p.P - 1) % p.Q != 0)) = false) (h4 : ((p.G == 1)) = false) (h5 : ((p.H == 1)) = false) (h6 : (!(isB p p.G)) = false) (h7 : (!(isB p p.H)) = false) (h8 : (decide (p.T < 1)) = false) (h9 : (decide (2 < p.T)) = false) (h10 : (decide (p.N < 3 * p.T + 1)) = false) (h11 : (decide (7 < p.N)) = false) (h12 : (decide (p.Q ≤ p.N)) = false) (h13 : (decide (p.Nodes < p.N)) = false) (h14 : (decide (8 < p.Nodes)) = false) (h15 : (decide (p.K < 1)) = false) (h16 : (decide (2 < p.K)) = false) (h17 : (decide (p.D < 1)) = false) (h18 : (decide (4 < p.D)) = false) (h19 : (decide (p.R < 1)) = false) (h20 : (decide (p.D < p.R)) = false) (h21 : (decide (p.M < 1)) = false) (h22 : (decide (1048576 < p.M)) = false) (h23 : (decide (p.X < 1)) = false) (h24 : (decide (1048576 < p.X)) = true) :
    Calls Tryd.prog 60 #[p.v] w fun e w' => e = .returned (.bool false) ∧ w.grownBy w' none := by
  have HB0 : Hid (Bk (w.alloc (.cells p.cells 24)) w.heap.size 24 p.cells) := Lib.hid (Bk.new w _ _)
  have HG0 : Hid (w.grownBy (w.alloc (.cells p.cells 24)) none) := Lib.hid (World.grownBy_alloc w _ none)
  have hp0 := HB0.out.prule
  obtain ⟨q0, q1⟩ := hp.Q
  obtain ⟨p0, p1⟩ := hp.P
  have HI1 := Lib.hid (fun w' => ris_any p p.G w' hp hp.G)
  have HI2 := Lib.hid (fun w' => ris_any p p.H w' hp hp.H)
  have e6 : isB p p.G = true := by simpa using h6
  rw [e6] at HI1
  clear h6 e6
  have e7 : isB p p.H = true := by simpa using h7
  rw [e7] at HI2
  clear h7 e7
  have f2 : ¬ p.Q < 2 := by simpa using h2
  have f0 : ¬ p.P < 2 := by simpa using h0
  have f8 : ¬ p.T < 1 := by simpa using h8
  have f9 : ¬ 2 < p.T := by simpa using h9
  have f10 : ¬ p.N < 3 * p.T + 1 := by simpa using h10
  have f11 : ¬ 7 < p.N := by simpa using h11
  clear hp
  go_enter Tryd.func60, Tryd.ntmps60
  go_wp2_with fail
  refine (HI1.out _).mono ?_
  rintro e w1 ⟨rfl, hg⟩
  have HG1 := hidTrans hg HG0
  have HB1 := bkGrown hg HB0
  have hp1 := HB1.out.prule
  clear hg hp0
  go_wp2_with fail
  refine (HI2.out _).mono ?_
  rintro e w2 ⟨rfl, hg⟩
  have HG2 := hidTrans hg HG1
  have HB2 := bkGrown hg HB1
  have hp2 := HB2.out.prule
  clear hg hp1
  go_wp2_with fail
  go_ret
  exact ⟨rfl, HG2.out⟩
set_option maxRecDepth 100000 in
set_option maxHeartbeats 1000000 in
theorem plain_25 (p : Par) (w : World) (hp : p.ok) (h0 : (decide (p.P < 2)) = false) (h1 : (decide (2305843009213693952 < p.P)) = false) (h2 : (decide (p.Q < 2)) = false) (h3 : (((p.P - 1) % p.Q != 0)) = false) (h4 : ((p.G == 1)) = false) (h5 : ((p.H == 1)) = false) (h6 : (!(isB p p.G)) = false) (h7 : (!(isB p p.H)) = false) (h8 : (decide (p.T < 1)) = false) (h9 : (decide (2 < p.T)) = false) (h10 : (decide (p.N < 3 * p.T + 1)) = false) (h11 : (decide (7 < p.N)) = false) (h12 : (decide (p.Q ≤ p.N)) = false) (h13 : (decide (p.Nodes < p.N)) = false) (h14 : (decide (8 < p.Nodes)) = false) (h15 : (decide (p.K < 1)) = false) (h16 : (decide (2 < p.K)) = false) (h17 : (decide (p.D < 1)) = false) (h18 : (decide (4 < p.D)) = false) (h19 : (decide (p.R < 1)) = false) (h20 : (decide (p.D < p.R)) = false) (h21 : (decide (p.M < 1)) = false) (h22 : (decide (1048576 < p.M)) = false) (h23 : (decide (p.X < 1)) = false) (h24 : (decide (1048576 < p.X)) = false) :
    Calls Tryd.prog 60 #[p.v] w fun e w' => e = .returned (.bool (m8 p)) ∧ w.grownBy w' none := by
  have HB0 : Hid (Bk (w.alloc (.cells p.cells 24)) w.heap.size 24 p.cells) := Lib.hid (Bk.new w _ _)
  have HG0 : Hid (w.grownBy (w.alloc (.cells p.cells 24)) none) := Lib.hid (World.grownBy_alloc w _ none)
  have hp0 := HB0.out.prule
  obtain ⟨q0, q1⟩ := hp.Q
  obtain ⟨p0, p1⟩ := hp.P
  have HI1 := Lib.hid (fun w' => ris_any p p.G w' hp hp.G)
  have HI2 := Lib.hid (fun w' => ris_any p p.H w' hp hp.H)
  have e6 : isB p p.G = true := by simpa using h6
  rw [e6] at HI1
  clear h6 e6
  have e7 : isB p p.H = true := by simpa using h7
  rw [e7] at HI2
  clear h7 e7
  have f2 : ¬ p.Q < 2 := by simpa using h2
  have f0 : ¬ p.P < 2 := by simpa using h0
  have f8 : ¬ p.T < 1 := by simpa using h8
  have f9 : ¬ 2 < p.T := by simpa using h9
  have f10 : ¬ p.N < 3 * p.T + 1 := by simpa using h10
  have f11 : ¬ 7 < p.N := by simpa using h11
  simp only [decide_eq_false_iff_not, Int.not_lt] at h17 h18 h21 h22 h23 h24
  obtain ⟨e0, e1⟩ := mul_bd p.D p.M 4 1048576 (by omega) h18 (by omega) h22
  obtain ⟨g0, g1⟩ := mul_bd (p.D * p.M) p.X (4 * 1048576) 1048576 e0 e1 (by omega) h24
  have HE : Hid (m8 p = decide (2 * (p.D * p.M * p.X + p.M) < p.Q)) := Lib.hid rfl
  have k17 : decide (p.D < 1) = false := by simp; omega
  have k18 : decide (4 < p.D) = false := by simp; omega
  have k21 : decide (p.M < 1) = false := by simp; omega
  have k22 : decide (1048576 < p.M) = false := by simp; omega
  have k23 : decide (p.X < 1) = false := by simp; omega
  have k24 : decide (1048576 < p.X) = false := by simp; omega
  clear hp
  go_enter Tryd.func60, Tryd.ntmps60
  go_wp2_with fail
  refine (HI1.out _).mono ?_
  rintro e w1 ⟨rfl, hg⟩
  have HG1 := hidTrans hg HG0
  have HB1 := bkGrown hg HB0
  have hp1 := HB1.out.prule
  clear hg hp0
  go_wp2_with fail
  refine (HI2.out _).mono ?_
  rintro e w2 ⟨rfl, hg⟩
  have HG2 := hidTrans hg HG1
  have HB2 := bkGrown hg HB1
  have hp2 := HB2.out.prule
  clear hg hp1
  go_wp2_with fail
  go_ret
  exact ⟨ret_bool HE.out.symm, HG2.out⟩
theorem plain_any (p : Par) (w : World) (hp : p.ok) : Calls Tryd.prog 60 #[p.v] w fun e w' => e = .returned (.bool (plainB p)) ∧ w.grownBy w' none := by
  cases h0 : (decide (p.P < 2)) with
  | true =>
    have e : plainB p = false := by simp [plainB, tests, h0]
    rw [e]
    exact plain_0 p w hp h0
  | false =>
  cases h1 : (decide (2305843009213693952 < p.P)) with
  | true =>
    have e : plainB p = false := by simp [plainB, tests, h1]
    rw [e]
    exact plain_1 p w hp h0 h1
  | false =>
  cases h2 : (decide (p.Q < 2)) with
  | true =>
    have e : plainB p = false := by simp [plainB, tests, h2]
    rw [e]
    exact plain_2 p w hp h0 h1 h2
  | false =>
  cases h3 : (((p.P - 1) % p.Q != 0)) with
  | true =>
    have e : plainB p = false := by simp [plainB, tests, h3]
    rw [e]
    exact plain_3 p w hp h0 h1 h2 h3
  | false =>
  cases h4 : ((p.G == 1)) with
  | true =>
    have e : plainB p = false := by simp [plainB, tests, h4]
    rw [e]
    exact plain_4 p w hp h0 h1 h2 h3 h4
  | false =>
  cases h5 : ((p.H == 1)) with
  | true =>
    have e : plainB p = false := by simp [plainB, tests, h5]
    rw [e]
    exact plain_5 p w hp h0 h1 h2 h3 h4 h5
  | false =>
  cases h6 : (!(isB p p.G)) with
  | true =>
    have e : plainB p = false := by simp [plainB, tests, show isB p p.G = false by simpa using h6]
    rw [e]
    exact plain_6 p w hp h0 h1 h2 h3 h4 h5 h6
  | false =>
  cases h7 : (!(isB p p.H)) with
  | true =>
    have e : plainB p = false := by simp [plainB, tests, show isB p p.H = false by simpa using h7]
    rw [e]
    exact plain_7 p w hp h0 h1 h2 h3 h4 h5 h6 h7
  | false =>
  cases h8 : (decide (p.T < 1)) with
  | true =>
    have e : plainB p = false := by simp [plainB, tests, h8]
    rw [e]
    exact plain_8 p w hp h0 h1 h2 h3 h4 h5 h6 h7 h8
  | false =>
  cases h9 : (decide (2 < p.T)) with
  | true =>
    have e : plainB p = false := by simp [plainB, tests, h9]
    rw [e]
    exact plain_9 p w hp h0 h1 h2 h3 h4 h5 h6 h7 h8 h9
  | false =>
  cases h10 : (decide (p.N < 3 * p.T + 1)) with
  | true =>
    have e : plainB p = false := by simp [plainB, tests, h10]
    rw [e]
    exact plain_10 p w hp h0 h1 h2 h3 h4 h5 h6 h7 h8 h9 h10
  | false =>
  cases h11 : (decide (7 < p.N)) with
  | true =>
    have e : plainB p = false := by simp [plainB, tests, h11]
    rw [e]
    exact plain_11 p w hp h0 h1 h2 h3 h4 h5 h6 h7 h8 h9 h10 h11
  | false =>
  cases h12 : (decide (p.Q ≤ p.N)) with
  | true =>
    have e : plainB p = false := by simp [plainB, tests, h12]
    rw [e]
    exact plain_12 p w hp h0 h1 h2 h3 h4 h5 h6 h7 h8 h9 h10 h11 h12
  | false =>
  cases h13 : (decide (p.Nodes < p.N)) with
  | true =>
    have e : plainB p = false := by simp [plainB, tests, h13]
    rw [e]
    exact plain_13 p w hp h0 h1 h2 h3 h4 h5 h6 h7 h8 h9 h10 h11 h12 h13
  | false =>
  cases h14 : (decide (8 < p.Nodes)) with
  | true =>
    have e : plainB p = false := by simp [plainB, tests, h14]
    rw [e]
    exact plain_14 p w hp h0 h1 h2 h3 h4 h5 h6 h7 h8 h9 h10 h11 h12 h13 h14
  | false =>
  cases h15 : (decide (p.K < 1)) with
  | true =>
    have e : plainB p = false := by simp [plainB, tests, h15]
    rw [e]
    exact plain_15 p w hp h0 h1 h2 h3 h4 h5 h6 h7 h8 h9 h10 h11 h12 h13 h14 h15
  | false =>
  cases h16 : (decide (2 < p.K)) with
  | true =>
    have e : plainB p = false := by simp [plainB, tests, h16]
    rw [e]
    exact plain_16 p w hp h0 h1 h2 h3 h4 h5 h6 h7 h8 h9 h10 h11 h12 h13 h14 h15 h16
  | false =>
  cases h17 : (decide (p.D < 1)) with
  | true =>
    have e : plainB p = false := by simp [plainB, tests, h17]
    rw [e]
    exact plain_17 p w hp h0 h1 h2 h3 h4 h5 h6 h7 h8 h9 h10 h11 h12 h13 h14 h15 h16 h17
  | false =>
  cases h18 : (decide (4 < p.D)) with
  | true =>
    have e : plainB p = false := by simp [plainB, tests, h18]
    rw [e]
    exact plain_18 p w hp h0 h1 h2 h3 h4 h5 h6 h7 h8 h9 h10 h11 h12 h13 h14 h15 h16 h17 h18
  | false =>
  cases h19 : (decide (p.R < 1)) with
  | true =>
    have e : plainB p = false := by simp [plainB, tests, h19]
    rw [e]
    exact plain_19 p w hp h0 h1 h2 h3 h4 h5 h6 h7 h8 h9 h10 h11 h12 h13 h14 h15 h16 h17 h18 h19
  | false =>
  cases h20 : (decide (p.D < p.R)) with
  | true =>
    have e : plainB p = false := by simp [plainB, tests, h20]
    rw [e]
    exact plain_20 p w hp h0 h1 h2 h3 h4 h5 h6 h7 h8 h9 h10 h11 h12 h13 h14 h15 h16 h17 h18 h19 h20
  | false =>
  cases h21 : (decide (p.M < 1)) with
  | true =>
    have e : plainB p = false := by simp [plainB, tests, h21]
    rw [e]
    exact plain_21 p w hp h0 h1 h2 h3 h4 h5 h6 h7 h8 h9 h10 h11 h12 h13 h14 h15 h16 h17 h18 h19 h20 h21
  | false =>
  cases h22 : (decide (1048576 < p.M)) with
  | true =>
    have e : plainB p = false := by simp [plainB, tests, h22]
    rw [e]
    exact plain_22 p w hp h0 h1 h2 h3 h4 h5 h6 h7 h8 h9 h10 h11 h12 h13 h14 h15 h16 h17 h18 h19 h20 h21 h22
  | false =>
  cases h23 : (decide (p.X < 1)) with
  | true =>
    have e : plainB p = false := by simp [plainB, tests, h23]
    rw [e]
    exact plain_23 p w hp h0 h1 h2 h3 h4 h5 h6 h7 h8 h9 h10 h11 h12 h13 h14 h15 h16 h17 h18 h19 h20 h21 h22 h23
  | false =>
  cases h24 : (decide (1048576 < p.X)) with
  | true =>
    have e : plainB p = false := by simp [plainB, tests, h24]
    rw [e]
    exact plain_24 p w hp h0 h1 h2 h3 h4 h5 h6 h7 h8 h9 h10 h11 h12 h13 h14 h15 h16 h17 h18 h19 h20 h21 h22 h23 h24
  | false =>
  have e : plainB p = m8 p := by
    unfold plainB tests
    rw [h0, h1, h2, h3, h4, h5, h6, h7, h8, h9, h10, h11, h12, h13, h14, h15, h16, h17, h18, h19, h20, h21, h22, h23, h24]
    rfl
  rw [e]
  exact plain_25 p w hp h0 h1 h2 h3 h4 h5 h6 h7 h8 h9 h10 h11 h12 h13 h14 h15 h16 h17 h18 h19 h20 h21 h22 h23 h24
end Go.Proofs.YtlhjbllfcbojmaaDoor

namespace Go.Proofs.YtlhjbllfcbojmaaDoor.NT

def Pr (p : Nat) : Prop := 2 ≤ p ∧ ∀ d, d ∣ p → d = 1 ∨ d = p
theorem least_pr (n : Nat) (h : 2 ≤ n) : ∃ p, Pr p ∧ p ∣ n ∧ ∀ d, 2 ≤ d → d ∣ n → p ≤ d := by
  have key : ∀ k, (∃ d, d ≤ k ∧ 2 ≤ d ∧ d ∣ n) → ∃ p, (2 ≤ p ∧ p ∣ n) ∧ ∀ d, 2 ≤ d → d ∣ n → p ≤ d := by
    intro k
    induction k with
    | zero => rintro ⟨d, h1, h2, _⟩; omega
    | succ k ih =>
      rintro ⟨d, h1, h2, h3⟩
      by_cases hc : ∃ d, d ≤ k ∧ 2 ≤ d ∧ d ∣ n
      · exact ih hc
      · refine ⟨d, ⟨h2, h3⟩, fun d' h4 h5 => ?_⟩
        rcases Nat.lt_or_ge d' d with hlt | hge
        · exact absurd ⟨d', by omega, h4, h5⟩ hc
        · exact hge
  obtain ⟨p, ⟨h1, h2⟩, h3⟩ := key n ⟨n, Nat.le_refl _, h, Nat.dvd_refl _⟩
  refine ⟨p, ⟨h1, fun d hd => ?_⟩, h2, h3⟩
  have hd0 : d ≠ 0 := by rintro rfl; rw [Nat.zero_dvd] at hd; omega
  rcases Nat.lt_or_ge d 2 with h4 | h4
  · left; omega
  · right
    have := h3 d h4 (Nat.dvd_trans hd h2)
    have := Nat.le_of_dvd (by omega) hd
    omega
theorem Pr.pos {p : Nat} (h : Pr p) : 2 ≤ p := h.1
theorem Pr.cop {p a : Nat} (h : Pr p) (ha : ¬ p ∣ a) : Nat.Coprime p a := by
  rcases h.2 _ (Nat.gcd_dvd_left p a) with e | e
  · exact e
  · exact absurd (e ▸ Nat.gcd_dvd_right p a) ha
theorem Pr.mul {p a b : Nat} (h : Pr p) (hd : p ∣ a * b) : p ∣ a ∨ p ∣ b := by
  by_cases ha : p ∣ a
  · exact .inl ha
  · exact .inr ((h.cop ha).dvd_of_dvd_mul_left hd)
theorem Pr.pow {p a : Nat} (h : Pr p) : ∀ k, p ∣ a ^ k → p ∣ a
  | 0, hd => by
    rw [Nat.pow_zero] at hd
    have := Nat.le_of_dvd (by decide) hd
    have := h.1
    omega
  | k + 1, hd => by
    rw [Nat.pow_succ] at hd
    rcases h.mul hd with h1 | h1
    · exact Pr.pow h k h1
    · exact h1
theorem Pr.odd {p : Nat} (h : Pr p) (h2 : 2 < p) : p % 2 = 1 := by
  rcases Nat.mod_two_eq_zero_or_one p with e | e
  · rcases h.2 2 (Nat.dvd_of_mod_eq_zero e) with h3 | h3 <;> omega
  · exact e

/-- Powers modulo a number. -/
theorem cmul {m a b c d : Nat} (h : a % m = b % m) (k : c % m = d % m) : a * c % m = b * d % m := by
  rw [Nat.mul_mod, h, k, ← Nat.mul_mod]
theorem cpow {m a b : Nat} (h : a % m = b % m) (k : Nat) : a ^ k % m = b ^ k % m := by
  rw [Nat.pow_mod, h, ← Nat.pow_mod]
theorem one_pow_mod {m a x : Nat} (h : a ^ x % m = 1 % m) (k : Nat) : a ^ (x * k) % m = 1 % m := by
  rw [Nat.pow_mul]
  have := cpow (b := 1) h k
  rwa [Nat.one_pow] at this
theorem one_pow_dvd {m a x y : Nat} (h : a ^ x % m = 1 % m) (hd : x ∣ y) : a ^ y % m = 1 % m := by
  obtain ⟨k, rfl⟩ := hd
  exact one_pow_mod h k
theorem one_pow_gcd {m a : Nat} (x y : Nat) : a ^ x % m = 1 % m → a ^ y % m = 1 % m → a ^ Nat.gcd x y % m = 1 % m := by
  induction x, y using Nat.gcd.induction with
  | H0 n => intro _ h; rwa [Nat.gcd_zero_left]
  | H1 x n hpos ih =>
    intro hx hy
    rw [Nat.gcd_rec]
    refine ih ?_ hx
    have h1 : a ^ n = a ^ (x * (n / x)) * a ^ (n % x) := by rw [← Nat.pow_add, Nat.div_add_mod]
    have h2 := cmul (one_pow_mod hx (n / x)) (rfl : a ^ (n % x) % m = a ^ (n % x) % m)
    rw [← h1, hy, Nat.one_mul] at h2
    exact h2.symm
theorem one_down {n r x : Nat} (h : x % n = 1 % n) (hr : r ∣ n) : x % r = 1 % r := by
  have := congrArg (· % r) h
  simpa [Nat.mod_mod_of_dvd _ hr] using this
theorem neg_down {n r x : Nat} (h : (x + 1) % n = 0) (hr : r ∣ n) : (x + 1) % r = 0 := Nat.mod_eq_zero_of_dvd (Nat.dvd_trans hr (Nat.dvd_of_mod_eq_zero h))
/-- -1 to an even power, and to an odd one. -/
theorem neg_sq {m x : Nat} (h : (x + 1) % m = 0) : x * x % m = 1 % m := by
  obtain ⟨k, hk⟩ := Nat.dvd_of_mod_eq_zero h
  cases x with
  | zero =>
    have : m = 1 := by have := Nat.dvd_of_mod_eq_zero h; simpa using this
    subst this
    simp
  | succ x =>
    have e : (x + 1) * (x + 1) = 1 + m * (k * x) := by rw [← Nat.mul_assoc, ← hk]; grind
    rw [e, Nat.add_mul_mod_self_left]
theorem neg_even {m x : Nat} (h : (x + 1) % m = 0) (k : Nat) : x ^ (2 * k) % m = 1 % m := by
  rw [Nat.pow_mul]
  have h2 : x ^ 2 % m = 1 % m := by rw [Nat.pow_two]; exact neg_sq h
  have := cpow (b := 1) h2 k
  rwa [Nat.one_pow] at this
theorem neg_odd {m x u : Nat} (h : (x + 1) % m = 0) (hu : u % 2 = 1) : (x ^ u + 1) % m = 0 := by
  obtain ⟨k, rfl⟩ : ∃ k, u = 2 * k + 1 := ⟨u / 2, by omega⟩
  rw [Nat.pow_succ, Nat.add_mod]
  have := cmul (neg_even h k) (rfl : x % m = x % m)
  rw [this, Nat.one_mul, ← Nat.add_mod]
  exact h
theorem one_neg {r x : Nat} (h1 : x % r = 1 % r) (h2 : (x + 1) % r = 0) (hr : 2 < r) : False := by
  rw [Nat.add_mod, h1, ← Nat.add_mod, Nat.mod_eq_of_lt (by omega)] at h2
  omega
theorem Pr.sqrt {r x : Nat} (h : Pr r) (hx : x * x % r = 1 % r) : x % r = 1 % r ∨ (x + 1) % r = 0 := by
  cases x with
  | zero =>
    have := h.1
    rw [Nat.zero_mul, Nat.zero_mod, Nat.mod_eq_of_lt (by omega)] at hx
    omega
  | succ x =>
    have hd : r ∣ x * (x + 2) := by
      have h1 : (x + 1) * (x + 1) = x * (x + 2) + 1 := by grind
      rw [h1] at hx
      have h2 := Nat.sub_mod_eq_zero_of_mod_eq hx
      rw [Nat.add_sub_cancel] at h2
      exact Nat.dvd_of_mod_eq_zero h2
    rcases h.mul hd with h1 | h1
    · left
      obtain ⟨k, rfl⟩ := h1
      rw [Nat.add_comm, Nat.add_mul_mod_self_left]
    · right
      exact Nat.mod_eq_zero_of_dvd h1

/-- What a number passes at a base. -/
def SP (n a : Nat) : Prop := ∃ t d, n - 1 = 2 ^ t * d ∧ d % 2 = 1 ∧ (a ^ d % n = 1 % n ∨ ∃ i, i < t ∧ (a ^ (2 ^ i * d) + 1) % n = 0)
/-- What a prime tells at a base: where its powers by squares come to 1. -/
def Tp (r v u a e : Nat) : Prop := (e = 0 ∧ a ^ u % r = 1 % r) ∨ (1 ≤ e ∧ e ≤ v ∧ (a ^ (2 ^ (e - 1) * u) + 1) % r = 0)
theorem odd_dvd {g v u : Nat} (hg : g ∣ 2 ^ v * u) (ho : g % 2 = 1) : g ∣ u := by
  have hc : Nat.Coprime g (2 ^ v) := by
    refine Nat.Coprime.pow_right v ?_
    show Nat.gcd g 2 = 1
    rw [Nat.gcd_comm, Nat.gcd_rec, ho]
    rfl
  exact hc.dvd_of_dvd_mul_left hg
theorem odd_of_dvd {g d : Nat} (h : g ∣ d) (hd : d % 2 = 1) : g % 2 = 1 := by
  obtain ⟨k, rfl⟩ := h
  rcases Nat.mod_two_eq_zero_or_one g with e | e
  · rw [Nat.mul_mod, e, Nat.zero_mul] at hd
    simp at hd
  · exact e
theorem SP.tell {n a : Nat} (h : SP n a) : ∃ e, ∀ r v u, Pr r → r ∣ n → 2 < r → r - 1 = 2 ^ v * u → u % 2 = 1 → a ^ (r - 1) % r = 1 % r → Tp r v u a e := by
  obtain ⟨t, d, hn, hd, h1 | ⟨i, hi, h1⟩⟩ := h
  · refine ⟨0, fun r v u hr hrn _ hu ho hf => .inl ⟨rfl, ?_⟩⟩
    have h2 := one_pow_gcd d (r - 1) (one_down h1 hrn) hf
    refine one_pow_dvd h2 (odd_dvd (v := v) ?_ (odd_of_dvd (Nat.gcd_dvd_left _ _) hd))
    rw [← hu]
    exact Nat.gcd_dvd_right _ _
  · refine ⟨i + 1, fun r v u hr hrn h2r hu ho hf => .inr ⟨by omega, ?_, ?_⟩⟩
    all_goals have h2 := neg_down h1 hrn
    · refine Classical.byContradiction fun hc => ?_
      have e : 2 ^ i * d * u = (r - 1) * (2 ^ (i - v) * d) := by
        rw [hu, show i = v + (i - v) by omega, Nat.pow_add, show v + (i - v) - v = i - v by omega]
        grind
      have h3 := one_pow_mod hf (2 ^ (i - v) * d)
      rw [← e, Nat.pow_mul] at h3
      exact one_neg h3 (neg_odd h2 ho) h2r
    · have hiv : i < v := by
        refine Classical.byContradiction fun hc => ?_
        have e : 2 ^ i * d * u = (r - 1) * (2 ^ (i - v) * d) := by
          rw [hu, show i = v + (i - v) by omega, Nat.pow_add, show v + (i - v) - v = i - v by omega]
          grind
        have h3 := one_pow_mod hf (2 ^ (i - v) * d)
        rw [← e, Nat.pow_mul] at h3
        exact one_neg h3 (neg_odd h2 ho) h2r
      rw [Nat.add_sub_cancel]
      have hy : ((a ^ (2 ^ i * u)) ^ d + 1) % r = 0 := by
        have := neg_odd h2 ho
        rwa [← Nat.pow_mul, show 2 ^ i * d * u = 2 ^ i * u * d by grind, Nat.pow_mul] at this
      have hs : a ^ (2 ^ (i + 1) * d) % r = 1 % r := by
        have := neg_sq h2
        rwa [← Nat.pow_add, show 2 ^ i * d + 2 ^ i * d = 2 ^ (i + 1) * d by rw [Nat.pow_succ]; grind] at this
      have hg := one_pow_gcd _ _ hs hf
      have hdv : Nat.gcd (2 ^ (i + 1) * d) (r - 1) ∣ 2 ^ (i + 1) * u := by
        rw [hu, show 2 ^ v * u = 2 ^ (i + 1) * (2 ^ (v - (i + 1)) * u) by rw [← Nat.mul_assoc, ← Nat.pow_add, show i + 1 + (v - (i + 1)) = v by omega], Nat.gcd_mul_left]
        exact Nat.mul_dvd_mul_left _ (odd_dvd (Nat.gcd_dvd_right _ _) (odd_of_dvd (Nat.gcd_dvd_left _ _) hd))
      have hq := one_pow_dvd hg hdv
      rw [show 2 ^ (i + 1) * u = 2 ^ i * u + 2 ^ i * u by rw [Nat.pow_succ]; grind, Nat.pow_add] at hq
      rcases hr.sqrt hq with h3 | h3
      · have h4 := cpow (b := 1) h3 d
        rw [Nat.one_pow] at h4
        exact (one_neg h4 hy h2r).elim
      · exact h3
/-- .. and so whether it is a square. -/
theorem Tp.half {r v u a e : Nat} (h : Tp r v u a e) (hu : r - 1 = 2 ^ v * u) (hv : 1 ≤ v) : (e = v → (a ^ ((r - 1) / 2) + 1) % r = 0) ∧ (e ≠ v → a ^ ((r - 1) / 2) % r = 1 % r) := by
  have hh : (r - 1) / 2 = 2 ^ (v - 1) * u := by
    rw [hu, show v = (v - 1) + 1 by omega, Nat.pow_succ, show v - 1 + 1 - 1 = v - 1 by omega, show 2 ^ (v - 1) * 2 * u = 2 * (2 ^ (v - 1) * u) by grind, Nat.mul_div_cancel_left _ (by decide)]
  rw [hh]
  rcases h with ⟨rfl, h⟩ | ⟨h1, h2, h⟩
  · exact ⟨fun e => by omega, fun _ => one_pow_dvd h (Nat.dvd_mul_left _ _)⟩
  · refine ⟨fun e => by subst e; exact h, fun hne => ?_⟩
    have := neg_even h (2 ^ (v - 1 - e))
    rw [← Nat.pow_mul] at this
    rwa [show 2 ^ (e - 1) * u * (2 * 2 ^ (v - 1 - e)) = 2 ^ (v - 1) * u by
      have : 2 ^ (v - 1) = 2 ^ (e - 1) * (2 * 2 ^ (v - 1 - e)) := by
        rw [← Nat.pow_succ', ← Nat.pow_add]
        congr 1
        omega
      rw [this]
      grind] at this
end Go.Proofs.YtlhjbllfcbojmaaDoor.NT

namespace Go.Proofs.YtlhjbllfcbojmaaDoor.NT

/-- A product from 1 on. -/
def prodF (f : Nat → Int) : Nat → Int
  | 0 => 1
  | n + 1 => prodF f n * f (n + 1)
/-- How often, from 1 on. -/
def cnt (f : Nat → Bool) : Nat → Nat
  | 0 => 0
  | n + 1 => cnt f n + if f (n + 1) then 1 else 0
def facI : Nat → Int
  | 0 => 1
  | n + 1 => facI n * ((n + 1 : Nat) : Int)
def prodL : List Nat → Int
  | [] => 1
  | x :: l => (x : Int) * prodL l
theorem prodL_perm {l m : List Nat} (h : l.Perm m) : prodL l = prodL m := by
  induction h with
  | nil => rfl
  | cons x _ ih => simp only [prodL]; rw [ih]
  | swap x y l => simp only [prodL]; rw [← Int.mul_assoc, ← Int.mul_assoc, Int.mul_comm (y : Int)]
  | trans _ _ h1 h2 => exact h1.trans h2
/-- Unlike numbers from 1 to n: no more than n, and if so many, their product is n's factorial. -/
theorem fill : ∀ (n : Nat) (l : List Nat), l.Nodup → (∀ x ∈ l, 1 ≤ x ∧ x ≤ n) → l.length ≤ n ∧ (l.length = n → prodL l = facI n)
  | 0, l, _, h => by
    have : l = [] := by
      cases l with
      | nil => rfl
      | cons x l => have := h x (by simp); omega
    subst this
    exact ⟨Nat.le_refl _, fun _ => rfl⟩
  | n + 1, l, hn, h => by
    by_cases hm : n + 1 ∈ l
    · have hp := List.perm_cons_erase hm
      have hlen := List.length_erase_of_mem hm
      have hpos : 0 < l.length := List.length_pos_of_mem hm
      have he : ∀ x ∈ l.erase (n + 1), 1 ≤ x ∧ x ≤ n := fun x hx => by
        have h1 := h x (List.mem_of_mem_erase hx)
        have h2 := (hn.mem_erase_iff.1 hx).1
        omega
      obtain ⟨h1, h2⟩ := fill n (l.erase (n + 1)) (hn.erase _) he
      refine ⟨by omega, fun e => ?_⟩
      rw [prodL_perm hp, facI, ← h2 (by omega)]
      simp only [prodL]
      exact Int.mul_comm _ _
    · obtain ⟨h1, _⟩ := fill n l hn fun x hx => by
        have h1 := h x hx
        have : x ≠ n + 1 := fun e => hm (e ▸ hx)
        omega
      exact ⟨by omega, fun e => by omega⟩
theorem prodF_list (f : Nat → Nat) (n : Nat) : prodF (fun k => (f k : Int)) n = prodL ((List.range n).map fun i => f (i + 1)) := by
  have key : ∀ (l : List Nat) (x : Nat), prodL (l ++ [x]) = prodL l * x := by
    intro l x
    induction l with
    | nil => simp [prodL]
    | cons y l ih =>
      simp only [prodL, List.cons_append]
      rw [ih, Int.mul_assoc]
  induction n with
  | zero => rfl
  | succ n ih =>
    rw [List.range_succ, List.map_append, List.map_singleton, key, ← ih]
    rfl
theorem prodF_inj (f : Nat → Nat) (n : Nat) (hr : ∀ k, 1 ≤ k → k ≤ n → 1 ≤ f k ∧ f k ≤ n) (hi : ∀ j k, 1 ≤ j → j ≤ n → 1 ≤ k → k ≤ n → f j = f k → j = k) : prodF (fun k => (f k : Int)) n = facI n := by
  rw [prodF_list]
  refine (fill n _ ?_ ?_).2 (by simp)
  · rw [List.nodup_iff_pairwise_ne, List.pairwise_map]
    refine List.Pairwise.imp_of_mem ?_ (List.nodup_iff_pairwise_ne.1 List.nodup_range)
    intro a b ha hb hne e
    have h1 := List.mem_range.1 ha
    have h2 := List.mem_range.1 hb
    have := hi (a + 1) (b + 1) (by omega) (by omega) (by omega) (by omega) e
    omega
  · intro x hx
    obtain ⟨i, hi', rfl⟩ := List.mem_map.1 hx
    have := List.mem_range.1 hi'
    exact hr (i + 1) (by omega) (by omega)

/-- The least rest, and whether it is a negative one. -/
def lr (r a k : Nat) : Nat := if a * k % r ≤ r / 2 then a * k % r else r - a * k % r
def ng (r a k : Nat) : Bool := decide (r / 2 < a * k % r)
def sgn (n : Nat) : Int := if n % 2 = 0 then 1 else -1
theorem sgn_succ (n : Nat) : sgn (n + 1) = - sgn n := by
  unfold sgn
  rcases Nat.mod_two_eq_zero_or_one n with h | h
  · rw [if_neg (by omega), if_pos h]
  · rw [if_pos (by omega), if_neg (by omega)]; rfl
theorem gauss_prod (r a : Nat) (hr : 0 < r) : ∀ n, ∃ z : Int, prodF (fun k => ((a * k : Nat) : Int)) n = sgn (cnt (ng r a) n) * prodF (fun k => (lr r a k : Int)) n + z * r
  | 0 => ⟨0, by simp [prodF, cnt, sgn]⟩
  | n + 1 => by
    obtain ⟨z, hz⟩ := gauss_prod r a hr n
    have hd := Nat.div_add_mod (a * (n + 1)) r
    have hlt := Nat.mod_lt (a * (n + 1)) hr
    generalize hq : a * (n + 1) / r = q at hd
    generalize hx : a * (n + 1) % r = x at hd hlt
    have hI : ((a * (n + 1) : Nat) : Int) = r * q + x := by rw [← hd]; simp
    simp only [prodF, cnt]
    rw [hz, hI]
    by_cases hc : r / 2 < x
    · have h1 : ng r a (n + 1) = true := by simp [ng, hx, hc]
      have h2 : lr r a (n + 1) = r - x := by simp only [lr, hx]; rw [if_neg (by omega)]
      rw [h1, h2, if_pos rfl, sgn_succ, Int.ofNat_sub (by omega)]
      generalize sgn (cnt (ng r a) n) = s
      generalize prodF (fun k => (lr r a k : Int)) n = P
      exact ⟨s * P * (q + 1) + z * (r * q + x), by grind⟩
    · have h1 : ng r a (n + 1) = false := by simp [ng, hx]; omega
      have h2 : lr r a (n + 1) = x := by simp only [lr, hx]; rw [if_pos (by omega)]
      rw [h1, h2, if_neg (by simp), Nat.add_zero]
      generalize sgn (cnt (ng r a) n) = s
      generalize prodF (fun k => (lr r a k : Int)) n = P
      exact ⟨s * P * q + z * (r * q + x), by grind⟩
theorem prod_mul (a : Nat) : ∀ n, prodF (fun k => ((a * k : Nat) : Int)) n = ((a ^ n : Nat) : Int) * facI n
  | 0 => by simp [prodF, facI]
  | n + 1 => by
    rw [prodF, prod_mul a n, facI, Nat.pow_succ]
    simp only [Int.natCast_mul]
    grind
theorem dvd_of_sub {r x y : Nat} (h : x % r = y % r) : r ∣ y - x := Nat.dvd_of_mod_eq_zero (Nat.sub_mod_eq_zero_of_mod_eq h.symm)
theorem lr_bd {r a k : Nat} (hr : Pr r) (h2 : 2 < r) (ha : ¬ r ∣ a) (h1 : 1 ≤ k) (hk : k ≤ r / 2) : 1 ≤ lr r a k ∧ lr r a k ≤ r / 2 := by
  have ho := hr.odd h2
  have hlt := Nat.mod_lt (a * k) (show 0 < r by omega)
  have hne : a * k % r ≠ 0 := fun e => by
    rcases hr.mul (Nat.dvd_of_mod_eq_zero e) with h | h
    · exact ha h
    · have := Nat.le_of_dvd (by omega) h
      omega
  unfold lr
  split <;> omega
theorem lr_inj {r a j k : Nat} (hr : Pr r) (h2 : 2 < r) (ha : ¬ r ∣ a) (hj : 1 ≤ j) (hj' : j ≤ r / 2) (h1 : 1 ≤ k) (hk : k ≤ r / 2) (e : lr r a j = lr r a k) : j = k := by
  have ho := hr.odd h2
  have l1 := Nat.mod_lt (a * j) (show 0 < r by omega)
  have l2 := Nat.mod_lt (a * k) (show 0 < r by omega)
  have key : a * j % r = a * k % r ∨ a * j % r + a * k % r = r := by
    unfold lr at e
    split at e <;> split at e <;> omega
  rcases key with key | key
  · rcases Nat.le_total j k with hle | hle
    · have h3 := dvd_of_sub (x := a * j) (y := a * k) key
      rw [← Nat.mul_sub] at h3
      rcases hr.mul h3 with h | h
      · exact absurd h ha
      · rcases Nat.eq_zero_or_pos (k - j) with h0 | h0
        · omega
        · have := Nat.le_of_dvd h0 h; omega
    · have h3 := dvd_of_sub (x := a * k) (y := a * j) key.symm
      rw [← Nat.mul_sub] at h3
      rcases hr.mul h3 with h | h
      · exact absurd h ha
      · rcases Nat.eq_zero_or_pos (j - k) with h0 | h0
        · omega
        · have := Nat.le_of_dvd h0 h; omega
  · have h3 : r ∣ a * (j + k) := by
      refine Nat.dvd_of_mod_eq_zero ?_
      rw [Nat.mul_add, Nat.add_mod, key, Nat.mod_self]
    rcases hr.mul h3 with h | h
    · exact absurd h ha
    · have := Nat.le_of_dvd (by omega) h
      omega
theorem fac_ndvd {r : Nat} (hr : Pr r) : ∀ n, n < r → ¬ (r : Int) ∣ facI n
  | 0, _, h => by
    have : (r : Int) ∣ ((1 : Nat) : Int) := h
    have := Nat.le_of_dvd (by decide) (Int.natCast_dvd_natCast.1 this)
    have := hr.1
    omega
  | n + 1, hn, h => by
    have key : ∀ m, facI m = ((facI m).toNat : Int) := by
      intro m
      have : 0 ≤ facI m := by
        induction m with
        | zero => decide
        | succ m ih => exact Int.mul_nonneg ih (by omega)
      omega
    rw [facI, key n, ← Int.natCast_mul] at h
    rcases hr.mul (Int.natCast_dvd_natCast.1 h) with h1 | h1
    · exact fac_ndvd hr n (by omega) (by rw [key n]; exact Int.natCast_dvd_natCast.2 h1)
    · have := Nat.le_of_dvd (by omega) h1
      omega
theorem Pr.mulI {p : Nat} (h : Pr p) {a b : Int} (hd : (p : Int) ∣ a * b) : (p : Int) ∣ a ∨ (p : Int) ∣ b := by
  rw [← Int.natAbs_dvd_natAbs, Int.natAbs_mul] at hd
  rcases h.mul hd with h1 | h1
  · exact .inl (Int.natAbs_dvd_natAbs.1 h1)
  · exact .inr (Int.natAbs_dvd_natAbs.1 h1)
/-- Gauss's lemma. -/
theorem gauss (r a : Nat) (hr : Pr r) (h2 : 2 < r) (ha : ¬ r ∣ a) : (cnt (ng r a) (r / 2) % 2 = 0 → a ^ (r / 2) % r = 1 % r) ∧ (cnt (ng r a) (r / 2) % 2 = 1 → (a ^ (r / 2) + 1) % r = 0) := by
  obtain ⟨z, hz⟩ := gauss_prod r a (by omega) (r / 2)
  rw [prod_mul, prodF_inj (lr r a) (r / 2) (fun k h1 h3 => lr_bd hr h2 ha h1 h3) (fun j k h1 h3 h4 h5 => lr_inj hr h2 ha h1 h3 h4 h5)] at hz
  have hd : (r : Int) ∣ (((a ^ (r / 2) : Nat) : Int) - sgn (cnt (ng r a) (r / 2))) * facI (r / 2) := ⟨z, by rw [Int.sub_mul, hz]; grind⟩
  have h3 := (hr.mulI hd).resolve_right (fac_ndvd hr _ (by omega))
  constructor
  · intro he
    rw [sgn, if_pos he] at h3
    have h4 : ((a ^ (r / 2) : Nat) : Int) % r = ((1 : Nat) : Int) % r := (Int.emod_eq_emod_iff_emod_sub_eq_zero).2 (Int.emod_eq_zero_of_dvd h3)
    exact_mod_cast h4
  · intro he
    rw [sgn, if_neg (by omega)] at h3
    have h4 : (r : Int) ∣ ((a ^ (r / 2) + 1 : Nat) : Int) := by
      have : ((a ^ (r / 2) + 1 : Nat) : Int) = ((a ^ (r / 2) : Nat) : Int) - -1 := by omega
      rw [this]; exact h3
    exact Nat.mod_eq_zero_of_dvd (Int.natCast_dvd_natCast.1 h4)
theorem Pr.fermat {r a : Nat} (hr : Pr r) (h2 : 2 < r) (ha : ¬ r ∣ a) : a ^ (r - 1) % r = 1 % r := by
  have ho := hr.odd h2
  have e : r - 1 = r / 2 + r / 2 := by omega
  obtain ⟨g1, g2⟩ := gauss r a hr h2 ha
  rw [e, Nat.pow_add]
  rcases Nat.mod_two_eq_zero_or_one (cnt (ng r a) (r / 2)) with h | h
  · have := cmul (g1 h) (g1 h)
    rwa [Nat.one_mul] at this
  · exact neg_sq (g2 h)

/-- Counting over stretches in which nothing changes. -/
theorem cnt_flat (f : Nat → Bool) (b : Bool) (x : Nat) : ∀ n, (∀ k, x < k → k ≤ x + n → f k = b) → cnt f (x + n) = cnt f x + if b then n else 0
  | 0, _ => by simp
  | n + 1, h => by
    have ih := cnt_flat f b x n fun k h1 h2 => h k h1 (by omega)
    rw [show x + (n + 1) = (x + n) + 1 by omega, cnt, ih, h (x + n + 1) (by omega) (by omega)]
    cases b <;> simp <;> omega
theorem cnt_to (f : Nat → Bool) (b : Bool) {x y : Nat} (hxy : x ≤ y) (h : ∀ k, x < k → k ≤ y → f k = b) : cnt f y = cnt f x + if b then y - x else 0 := by
  have := cnt_flat f b x (y - x) fun k h1 h2 => h k h1 (by omega)
  rwa [show x + (y - x) = y by omega] at this
/-- Where the i-th half stretch ends. -/
def bnd (a r i : Nat) : Nat := i * r / (2 * a)
def muS (a r : Nat) : Nat → Nat
  | 0 => 0
  | j + 1 => muS a r j + (bnd a r (2 * j + 2) - bnd a r (2 * j + 1))
theorem ng_block {r a i k : Nat} (hr : Pr r) (h2 : 2 < r) (ha : ¬ r ∣ a) (ha0 : 0 < a) (hk0 : 0 < k) (hk : k ≤ r / 2) (h1 : bnd a r i < k) (h3 : k ≤ bnd a r (i + 1)) : ng r a k = decide (i % 2 = 1) := by
  have ho := hr.odd h2
  have hA : 0 < 2 * a := by omega
  have e1 : i * r < 2 * (a * k) := by
    have := (Nat.div_lt_iff_lt_mul hA).1 h1
    calc i * r < k * (2 * a) := this
      _ = 2 * (a * k) := by grind
  have e2 : 2 * (a * k) ≤ (i + 1) * r := by
    have := (Nat.le_div_iff_mul_le hA).1 h3
    calc 2 * (a * k) = k * (2 * a) := by grind
      _ ≤ (i + 1) * r := this
  have hne : a * k % r ≠ 0 := fun e => by
    rcases hr.mul (Nat.dvd_of_mod_eq_zero e) with h | h
    · exact ha h
    · have := Nat.le_of_dvd (by omega) h
      omega
  have hd := Nat.div_add_mod (a * k) r
  have hlt := Nat.mod_lt (a * k) (show 0 < r by omega)
  generalize a * k / r = q at hd
  generalize a * k % r = x at hd hlt hne
  have e3 : i * r < 2 * (r * q + x) := by rw [hd]; exact e1
  have e4 : 2 * (r * q + x) ≤ (i + 1) * r := by rw [hd]; exact e2
  show ng r a k = _
  have hng : ng r a k = decide (r / 2 < x) := by
    unfold ng
    congr 1
    have : a * k % r = x := by rw [← hd, Nat.mul_add_mod, Nat.mod_eq_of_lt hlt]
    rw [this]
  rw [hng]
  rcases Nat.lt_trichotomy i (2 * q) with h | h | h
  · exfalso
    have : (i + 1) * r ≤ 2 * q * r := Nat.mul_le_mul_right r (by omega)
    have e5 : 2 * q * r = 2 * (r * q) := by grind
    omega
  · subst h
    have e5 : (2 * q + 1) * r = 2 * (r * q) + r := by grind
    have : ¬ (2 * q % 2 = 1) := by omega
    simp only [this, decide_false, decide_eq_false_iff_not]
    omega
  · rcases Nat.lt_or_ge i (2 * q + 2) with h' | h'
    · obtain rfl : i = 2 * q + 1 := by omega
      have e5 : (2 * q + 1) * r = 2 * (r * q) + r := by grind
      have : (2 * q + 1) % 2 = 1 := by omega
      simp only [this, decide_true, decide_eq_true_eq]
      omega
    · exfalso
      have : (2 * q + 2) * r ≤ i * r := Nat.mul_le_mul_right r h'
      have e5 : (2 * q + 2) * r = 2 * (r * q) + 2 * r := by grind
      omega
theorem bnd_mono {a r i j : Nat} (h : i ≤ j) : bnd a r i ≤ bnd a r j := Nat.div_le_div_right (Nat.mul_le_mul_right r h)
theorem bnd_half {a r i : Nat} (ha : 0 < a) (h : i ≤ a) : bnd a r i ≤ r / 2 := by
  refine (Nat.le_div_iff_mul_le (by decide)).2 ?_
  have h1 : bnd a r i * (2 * a) ≤ i * r := Nat.div_mul_le_self _ _
  have h2 : i * r ≤ a * r := Nat.mul_le_mul_right r h
  refine Nat.le_of_mul_le_mul_right (c := a) ?_ ha
  calc bnd a r i * 2 * a = bnd a r i * (2 * a) := by grind
    _ ≤ r * a := by rw [Nat.mul_comm r]; omega
theorem cnt_mu {r a : Nat} (hr : Pr r) (h2 : 2 < r) (ha : ¬ r ∣ a) (ha0 : 0 < a) : ∀ j, 2 * j ≤ a → cnt (ng r a) (bnd a r (2 * j)) = muS a r j
  | 0, _ => by simp [bnd, cnt, muS]
  | j + 1, h => by
    have ih := cnt_mu hr h2 ha ha0 j (by omega)
    have c1 := cnt_to (ng r a) false (bnd_mono (a := a) (r := r) (show 2 * j ≤ 2 * j + 1 by omega)) fun k h1 h3 => by
      rw [ng_block hr h2 ha ha0 (by omega) (Nat.le_trans h3 (bnd_half ha0 (by omega))) h1 h3]
      simp
    have c2 := cnt_to (ng r a) true (bnd_mono (a := a) (r := r) (show 2 * j + 1 ≤ 2 * j + 1 + 1 by omega)) fun k h1 h3 => by
      rw [ng_block hr h2 ha ha0 (by omega) (Nat.le_trans h3 (bnd_half ha0 (by omega))) h1 h3]
      simp
    rw [show 2 * (j + 1) = 2 * j + 1 + 1 by omega, c2, c1, ih, muS]
    simp
theorem cnt_all {r a : Nat} (hr : Pr r) (h2 : 2 < r) (ha : ¬ r ∣ a) (ha0 : 0 < a) : cnt (ng r a) (r / 2) = muS a r (a / 2) := by
  have h1 := cnt_mu hr h2 ha ha0 (a / 2) (by omega)
  rcases Nat.mod_two_eq_zero_or_one a with he | he
  · rw [← h1]
    congr 1
    unfold bnd
    rw [show 2 * (a / 2) = a by omega, Nat.mul_comm 2 a, Nat.mul_div_mul_left _ _ ha0]
  · have hb := bnd_half (r := r) ha0 (show 2 * (a / 2) ≤ a by omega)
    have c1 := cnt_to (ng r a) false hb fun k h3 h4 => by
      rw [ng_block (i := 2 * (a / 2)) hr h2 ha ha0 (by omega) h4 h3 ?_]
      · simp
      · rw [show 2 * (a / 2) + 1 = a by omega]
        refine (Nat.le_div_iff_mul_le (by omega)).2 ?_
        have : 2 * k ≤ r := by omega
        calc k * (2 * a) = a * (2 * k) := by grind
          _ ≤ a * r := Nat.mul_le_mul_left a this
    rw [c1, h1]
    simp
theorem muS_per (a r q : Nat) (ha : 0 < a) : ∀ j, muS a (r + 4 * a * q) j = muS a r j + 2 * (q * j)
  | 0 => by simp [muS]
  | j + 1 => by
    have key : ∀ i, bnd a (r + 4 * a * q) i = bnd a r i + 2 * (i * q) := by
      intro i
      unfold bnd
      rw [show i * (r + 4 * a * q) = i * r + 2 * a * (2 * (i * q)) by grind, Nat.add_mul_div_left _ _ (by omega)]
    have hm := bnd_mono (a := a) (r := r) (show 2 * j + 1 ≤ 2 * j + 2 by omega)
    simp only [muS, muS_per a r q ha j, key]
    have : (2 * j + 2) * q = (2 * j + 1) * q + q := by grind
    rw [this]
    have e2 : q * (j + 1) = q * j + q := by grind
    rw [e2]
    omega
/-- 0: a square (of a prime that is so modulo 4 a); 1: none. -/
def chi (a x : Nat) : Nat := muS a (x % (4 * a)) (a / 2) % 2
theorem chi_spec {r a : Nat} (hr : Pr r) (h2 : 2 < r) (ha : ¬ r ∣ a) (ha0 : 0 < a) : (chi a r = 0 → a ^ (r / 2) % r = 1 % r) ∧ (chi a r = 1 → (a ^ (r / 2) + 1) % r = 0) := by
  have h := muS_per a (r % (4 * a)) (r / (4 * a)) ha0 (a / 2)
  rw [Nat.mod_add_div] at h
  have e : chi a r = cnt (ng r a) (r / 2) % 2 := by
    rw [cnt_all hr h2 ha ha0, h, chi]
    omega
  rw [e]
  exact gauss r a hr h2 ha
end Go.Proofs.YtlhjbllfcbojmaaDoor.NT

namespace Go.Proofs.YtlhjbllfcbojmaaDoor.NT

/-- a to the power of e, modulo m: 8 bits at once. -/
def pw (a m f : Nat) : Nat → Nat := Nat.rec (motive := fun _ => Nat → Nat) (fun _ => Nat.mod 1 m) (fun _ ih e => bif Nat.beq e 0 then Nat.mod 1 m else Nat.mod (Nat.mul (Nat.pow (ih (Nat.div e 256)) 256) (Nat.pow a (Nat.mod e 256))) m) f
theorem pw_eq (a m : Nat) : ∀ f e, e < 256 ^ f → pw a m f e = a ^ e % m
  | 0, e, h => by
    have : e = 0 := by simpa using h
    subst this
    rfl
  | f + 1, e, h => by
    show (bif Nat.beq e 0 then 1 % m else ((pw a m f (e / 256)) ^ 256 * a ^ (e % 256)) % m) = _
    cases hb : Nat.beq e 0 with
    | true =>
      have : e = 0 := Nat.eq_of_beq_eq_true hb
      subst this
      rfl
    | false =>
      have ih := pw_eq a m f (e / 256) (Nat.div_lt_of_lt_mul (by rw [Nat.mul_comm, ← Nat.pow_succ]; exact h))
      simp only [cond_false]
      rw [ih]
      have h1 : (a ^ (e / 256) % m) ^ 256 % m = (a ^ (e / 256)) ^ 256 % m := by rw [← Nat.pow_mod]
      have h2 := cmul h1 (rfl : a ^ (e % 256) % m = a ^ (e % 256) % m)
      rw [h2, ← Nat.pow_mul, ← Nat.pow_add]
      congr 2
      have := Nat.div_add_mod e 256
      omega

/-- Bits of a table, read at the numbers of a row. -/
def okm (a t x : Nat) : Bool := Nat.beq (Nat.mod (Nat.shiftRight t (Nat.mod x (Nat.mul 4 a))) 2) 1
def pat (a t s L n : Nat) : Nat := Nat.rec (motive := fun _ => Nat) 0 (fun k ih => bif okm a t (Nat.add s (Nat.mul k L)) then Nat.lor ih (Nat.shiftLeft 1 k) else ih) n
theorem pat_bit (a t s L : Nat) : ∀ n k, k < n → okm a t (s + k * L) = true → (pat a t s L n).testBit k = true
  | 0, k, h, _ => by omega
  | n + 1, k, h, ho => by
    show (bif okm a t (s + n * L) then pat a t s L n ||| 1 <<< n else pat a t s L n).testBit k = true
    rcases Nat.lt_or_ge k n with hlt | hge
    · have ih := pat_bit a t s L n k hlt ho
      cases okm a t (s + n * L) <;> simp [Nat.testBit_or, ih]
    · obtain rfl : k = n := by omega
      rw [ho]
      simp [Nat.testBit_or, Nat.testBit_shiftLeft]
/-- A pattern laid again and again. -/
def rep (K f : Nat) : Nat → Nat → Nat := Nat.rec (motive := fun _ => Nat → Nat → Nat) (fun _ _ => Nat.sub (Nat.pow 2 K) 1) (fun _ ih P w => bif Nat.ble K w then P else ih (Nat.lor P (Nat.shiftLeft P w)) (Nat.add w w)) f
theorem rep_bit (K : Nat) (Q : Nat → Prop) : ∀ f P w, (∀ k, Q (k + w) → Q k) → (∀ k, k < w → Q k → P.testBit k = true) → ∀ k, k < K → Q k → (rep K f P w).testBit k = true
  | 0, P, w, _, _, k, hk, _ => by
    show (2 ^ K - 1).testBit k = true
    rw [Nat.testBit_two_pow_sub_one]
    simpa using hk
  | f + 1, P, w, hp, h, k, hk, hq => by
    show (bif Nat.ble K w then P else rep K f (P ||| P <<< w) (w + w)).testBit k = true
    cases hb : Nat.ble K w with
    | true =>
      have := Nat.le_of_ble_eq_true hb
      exact h k (by omega) hq
    | false =>
      refine rep_bit K Q f _ _ (fun k hq => hp _ (hp _ (by rwa [Nat.add_assoc]))) (fun k hk hq => ?_) k hk hq
      rw [Nat.testBit_or]
      rcases Nat.lt_or_ge k w with hlt | hge
      · rw [h k hlt hq]; rfl
      · have h1 := h (k - w) (by omega) (hp _ (by rwa [Nat.sub_add_cancel hge]))
        rw [Nat.testBit_shiftLeft, h1]
        simp [hge]
/-- The places of a row at which all tables have bits. -/
def sv (s L K : Nat) : List (Nat × Nat) → Nat → Nat
  | [], N => N
  | m :: ms, N => bif Nat.beq N 0 then 0 else sv s L K ms (Nat.land (rep K 40 (pat m.1 m.2 s L (Nat.mul 4 m.1)) (Nat.mul 4 m.1)) N)
theorem okm_per (a t s L k : Nat) : okm a t (s + (k + 4 * a) * L) = okm a t (s + k * L) := by
  show Nat.beq ((t >>> ((s + (k + 4 * a) * L) % (4 * a))) % 2) 1 = Nat.beq ((t >>> ((s + k * L) % (4 * a))) % 2) 1
  rw [show s + (k + 4 * a) * L = s + k * L + 4 * a * L by grind, Nat.add_mul_mod_self_left]
theorem sv_bit (s L K k : Nat) (hk : k < K) : ∀ (ms : List (Nat × Nat)) (N : Nat), (∀ m ∈ ms, okm m.1 m.2 (s + k * L) = true) → N.testBit k = true → (sv s L K ms N).testBit k = true
  | [], N, _, hN => hN
  | m :: ms, N, h, hN => by
    show (bif Nat.beq N 0 then 0 else sv s L K ms (rep K 40 (pat m.1 m.2 s L (4 * m.1)) (4 * m.1) &&& N)).testBit k = true
    cases hb : Nat.beq N 0 with
    | true =>
      have := Nat.eq_of_beq_eq_true hb
      subst this
      simp at hN
    | false =>
      refine sv_bit s L K k hk ms _ (fun m' hm => h m' (by simp [hm])) ?_
      rw [Nat.testBit_and, hN, rep_bit K (fun k => okm m.1 m.2 (s + k * L) = true) 40 _ _ (fun k hq => by rwa [← okm_per]) (fun k hk hq => pat_bit _ _ _ _ _ k hk hq) k hk (h m (by simp))]
      rfl
/-- Where the lowest bit stands, of 4096: by what the power of 2 is modulo a prime. (Nothing is proved of it, or needed.) -/
def lowT : Nat := 57904830972068721005110387202319593583351319428909737166968067855035695828740611392712712371547674670288268348859000390099631704975130739656227761081292883370249982567525826519349939862416593884419404188277896590435212901461000844607194849127247399011804554307937676695981283658839423151719535135838478503212491916523754378245310613092995137522640687321878006158950824144408987891280488406303745885855390052974879037499528827156030454554901138918455300907649259569311723921920234354851034548621695744959545686628287898896135836990801270463501689625979739389879178972932514428023454199213077847323714302863353168688672474192680499699716285737573679686655506561635972885102893956071200084791712753126155823406643241328194025198570811892550195484424125016727924706606912224166306454471685277812941729535181911118190097622282640475581808414839959811831793337688230864452313590043685520674287524119955288617996232253064644644368689648047071730885916887988280824833422705334593917150276241590823223725482789485573266835076059211552300402477440335807269293782990076954141108680737105964739972907486049049502652227299502132553818590860808224229627770753908073644523763620916930582272861942227449321508226083363625897440715959627268195567550623829758310594195181955704909266523586065797331682393453599858057503976882008114811230627067484028276387107974181701530414146037975797328667418981729107247115673043571371048758764489225769200964858485935497063935268014490418262804463611087718538771400248873968013346932254189957809086805152992282961509987672962031869028275268378197809071362221150372646906421922236465948633145958255420623747056437176070837611206378301337365026503315602484335162613652941570469961754222269848621112926094907412036936014318915762865051273676668102929388631272408893134106841398884459458841596964108132290356743308134923252389218823513289559057868566620208533848773556443651206477259693167307641375840487320240073176932601822613451413631294351783995290903591501066416543186854196787261838397432152558501119456608306906862842831594350797768782136115029462698946562130284430974197007791368892108843597916609089997671383668771847692924799834353753393225341656507118096733055373793420269018780150728267434275280323358684459443853391077276984821443843947735936789982571487892125402717593117961942352369563746673933869733457333481136950429706776852770149365958847031770237364728562306968939799266293125245780682638976134686185887615149158651379347478827295790352596756472346760054551496343882187183462070187691399487835937288632108964424266038515923680769172025047938439813899671213093066437469059447825200560087341500738865352091360550042306105725449257987158598739908629964569610401812548487175962735446852939552215201857102038466451224497310069540560104848155473691951156157676003314178530645947327293947036713490780903137936561311386842855090794994353416744338386470440962561044283773259215675317111585060463589537621231768923787163745282859199606869583155703262183547358218774893112407178184202154697536007312758361653063324021601961603175077103264695172840568832648497509744752167721302716742707840426966140422700759386625522274040366905729939503313977242744290889695433804960134533676089885900727409750362498871809291930227994461351166401108216199210064766817783339864300283092231673970284141508155872701449149778623906203223258428183024937168540365349695314526401400612433921441449535469930118781137678967429330711973587004989708433373228576686472704738025782844636281325815730106760658251192790087271692905721875472152592756519917497846864995959657654993295209787520385486237620981364632386418609331838248967860097180319876272049252394400566881188012413572891113037171468474226712841551649897383681176278764206410580883655658709876036893710254336497696764612665720884221176464108570036237521936513722280616361722554623398128285650762133937724141828737446549779475891721189005335452079139915042868394490157609990608050320046057521337643783344406742132008260122982196879874327921549028250742189945246504073348089143442991388392899604890069227954244885955350307119379556543301053712646858250714333507315280544841817458072396355946806660781039013869305402720383793904188119982899646111261662971703568433636806585863441406373452283225120804971981419487641036747891329975208512145564693172933280411281046818369738820210625867657832665076364142704516257942058997808774880894602063530530653245961740171588713557667157816831921493202385985623758148777460929328102520981152763897265701711921829996858260127273833158090478749016821315481536631510865511859384273480716455349628152597949365927790250092520452889728747800570118248877497399610440873297873181398330589392571366108580894824762169923694212181603029449872707400802796609733806039965056184609666889925380276417362996416497173258169612868663969671060240417264213609686129736469445737214233288077604043304812274361207584720035782789153819478253513964100144845027155399183959808927349280906209344056907818020853212229819709720440646772008832384753188782754234710726341243525159782420395878894577283553854053426679270693960167892413098552261874846606171953420028876071039183898707143777743091355447313494016698309970258130787081134771716291468938386051562691326703532580378522294978081896009108102290080236096296937216376805714704820618022745835685175772134138747367954705692951840862104502285432217889795436375695359614216108976583167630764699597584443476664690018282518807632485584534966090039462104791977527102661800714649841282484981776469508696585282444609760912710820794027609931089769915692028157246291071645806127449541488366149877092841285413810296449402876886208265501510809072403170135650302953404685417886805887778217836164338135577445094995377824523240240428778376648598861517006429509278962583499525154354075149514885559415066482325819683506875164162612268196630549822219196872976059374365769797529454714028889773249293030791230752707771870096416920557457124760920418333719979258092450090285464561096989531606680262145024271645290307301023415116824968275030871529318296524670498009227970095930388326086504503573291807370048792577093411012363435277743781741267897466973204719324423573295177103723066798066582617984319655826945235440857854937585423366648658784021398912690772502053640429634424745355259643573073195652277073521312523582408578234387284951529904062474002184345602630631471650134938569882958206663034100690800865711629544617019707491421167725973973966210758663636742125741308236566967630372306932876805242672264268721068564617487620855652519666455494938779637815450759110944117134809946138412453847824969931068604424514731754118040573425556375279054129675247684667271602250542386753971624651891797888388006919054988191403153785300462193675463821579145252256784172099316698292058735968496059683902788490047566571108828239647577195584943089651804271485210328483220645043013342925269286477430050707480506198232656112256186333185968429204235023057076207546286771863572518114190700398482143535010348181835529201593072200706938321009382048667993196908176293142499568483183500921046757378697761738574153355506692918791078770837843374561608918119279710226057326913017845204354407004790579002021622059875838932628629182268033361848060190798491957602822059429828481079744553999823958064136266367425230689547566638963248067954099131873910821525333711568589064661542123393841086185951843279851440119979743940589188076010536587279072858747508092143564097756303065664102604595125447218380351112925579932341061503651729823565391620510468705320544360769109652478154697973083983092098949452550214528601438554014405194359682606977557677341172025929728947852238232754313101482856962049792051744119556846887395520979511610197250741976814248510669852630729123135913856928580008517853988854824468194000670564868329283929275304147598413308088252627338741264738799471271954585997019885053472341112633131256084204619097361114240508909645699092684228357385601747098349475571267389616530153031453829366029154476981227923689873193455075350579358013046800633239264766163289178300571961841536843909594934734307234137144662381704775484340417402623152156805441958228883176426684498836407264159706066261188258251566085647561315686246239734238724785406747694783759230701374542908892984264559774885968647697300452488274506406509311822911761687941917906367128142262446516839394760164203082406653093209373598817464849252030582748321153779487835250503683669773380458282984774433527279913194863564425038489696181741631422793790408928016157347268146117487146281829292348912002827831967068556958246676610911435582849811856285625618280688597913115700668669422014205889031004551933863563748060360382672625986072970653374166268572671281332803220713183629257787945197589196348972740140909518344126035548383927990981218071371304795195796065652260595433776314948241655586139930063162348154531594967798179352073523333501360766271832302719012522067742057278473061039457169166797158398638887902691476583830888162804697291749198862274362372559366203896355561144332052572583792818536915752591514670045957037869854823767682991408074561155442909116178818163670884662725906923723769778803788516679330620152229696548861770027399197128762574570694169674002573597749569126463859662657844780779102646444105650244343004061296972258437794241652208490649877367940004302738571269466503198055878500244306095680628950590021305308989762644610902987762112782264050594048109381275091006581532268785488059937502162093753345968985782533063871270736906776817651369763605202957224392188839989051415269409076037810757915665604102507838922810374462123289547837598093824382531516341938441607987238057817147047456055053173527209057014597985592381083244088151624071224105302502438961384638054453149366873471959074302422366967644721707103260764434088342794836554302234762718031644921348426121406662043984924369695898289493540995194278864605400118213474021468849457575526085979857123398922094613142172883565402593572782220559238253681310357865393396850309325420714798338781794683328610376753165470657657057767590638590050803185529903959370502260569414291522087814361920572636873235402720089835598016506618051030526569589700262561646107486559742552449818532339636830338107776372236698748070551351006074441583730486956992114905808249420089955067465279342067046330164875052676259135153770678854715146903916779217604532054735896576268256080588836478900350233087565839176977946064077272804866441544402354369884500866881502809355616134564394368666131066181611312633138137279310687192356141010667713075064743740733889696481518276639854646556846770406856149224544125295846542738924307658529351325677013556094810660442136164817822626071589571349225231492083832461978509136668208912735078348218351778322083145612170905125560681059955760009273661059301930321946132200486993918362352128745629393595623959752629116558925129988129420313856243728489482448168138525191630239433581719081535219828993819601706859571852498679466134670731872297875670782190032954283571216131820595988712524968312410408262912287057796289015482685405717364169678895376035370523378553810916095578961884365163671903755664295084025854815578090960946618528144550295265060178705043851703473004652475281809980907148899131287393018401916288154406255059295536574332358978266890926558951703273723605132298559696092734127855456771445729233663740650212327812304696908475248661522001858965299997845919236312081037375867070875366006539850394603297273136422372601660718881874077516896305199203564327573566704236264906747746612391031501813842254428354478361752286938971116348209971343260445390967288232689794170855052374926138421702841326669651248792896667112701964888396584220346431827492557400933475786760454582002161463356769529620522403371305641019487302567801242700250544793429396796169380097495136006660817824430909143099617290703233101660655862375603824607861410565408060594695756623984144792426749345727238696862191686380763183341868723142702581324551036024837264164767855123758333952547673948109129113765583602443274621210192563371401303221377226200735514645542259803576260892883923674044126264434125708022965635745531159666174059278314009143376113953692317179520202774529160039282150959874260246423817972755108271456924403169319840218155368566907346474874813393517057762752494261692452771032912630240227210917760865326362554329420733914764054488475671537105797926801635066408108019813526006862341775414103512707436043071341854163766509539124676464544610180854475641253854643009784253777822047287335031470396932553173383280212464708471167125236880937231414222363186139528116870921650250259783796009427753068473324594837223205864059282826584918557804387300680602159909358216515609500527439817821936895154468231225061564102369889488301282988422338470392975733125227183467753984298587568926077122568035205744871042832719455840479108459868354034563303151733597654854605939627653312969618516026054429810049892988169735983121744856189162566689721654608337210678914406408641906084079335588181503939608193546114525143156577272871398865540096753572813253070261722190794740675385126562930502013607422218222492349603492744504758862312259854379260209816267930776312020097067990295541513878908286448260183090321257726389641300643584806313707961845902118031310850561218541190706289932933964099008405161214017885966166489465889915878996454126363004191991745774178825169673503648710923400802889024670728359097809543627093088757780950997532271485652273713267102080408305376032913515476407439762044251901777956617027449943324359337475027584876605929861049062144139915084683351438432464613455269298100369636086624248710762447068130066648958889277916448602834334740109839960907310832047984636884589398969838837625615843879005858576406918557408345901592566388916574207931913495366786647010106126713287473464293513013699861326031058889284645312754552215765446844321284909032653483763503154967831631468478904073126019180768572435005878900982938019562500286231018690062938071627562409494681783815823506627433293204459092442870534018002820134328555694588198157450208945862478076140800839413578362447050837561433598590117824969222976398209644650881268453561891307145962880329243330565658348624429804359903476356967665871270133543112688233538532775130588994150712833226141537218646025566102661660016733704757080101935440675096321060795041923614462869158453757244342631750409092129122236367120561447497173790241167248946710599103576357481612335476739779252389654742406993209905661868186756334349383457641791720489472537851302532926599058280121234064115562621445989310073913183485095759045861003922401251595239393507321962481321880673560817332297859728496460344913254999433041327178923781910620680566636123233975129399218352200776638895924148617639126129781744598638178876888999333047689825077387286796353744240753876953948547520809359884647560690921348243628068297422929920
def lowi (N : Nat) : Nat := Nat.mod (Nat.shiftRight lowT (Nat.mul 12 (Nat.mod (Nat.gcd N (Nat.pow 2 4096)) 4099))) 4096
/-- All places of bits, the lowest first. -/
def bitb (g : Nat → Bool) (f : Nat) : Nat → Nat → Bool := Nat.rec (motive := fun _ => Nat → Nat → Bool) (fun N _ => Nat.beq N 0) (fun _ ih N off => bif Nat.beq N 0 then true else g (Nat.add off (lowi N)) && ih (Nat.xor N (Nat.pow 2 (lowi N))) off) f
theorem bitb_out (g : Nat → Bool) : ∀ f N off, bitb g f N off = true → ∀ k, N.testBit k = true → g (off + k) = true
  | 0, N, off, h, k, hb => by
    have h' : Nat.beq N 0 = true := h
    have := Nat.eq_of_beq_eq_true h'
    subst this
    simp at hb
  | f + 1, N, off, h, k, hb => by
    have h' : (bif Nat.beq N 0 then true else g (off + lowi N) && bitb g f (N ^^^ 2 ^ lowi N) off) = true := h
    cases hN : Nat.beq N 0 with
    | true =>
      have := Nat.eq_of_beq_eq_true hN
      subst this
      simp at hb
    | false =>
      rw [hN, cond_false, Bool.and_eq_true] at h'
      by_cases hk : k = lowi N
      · rw [hk]; exact h'.1
      · refine bitb_out g f _ off h'.2 k ?_
        rw [Nat.testBit_xor, hb, Nat.testBit_two_pow]
        simp [Ne.symm hk]
/-- All places of bits; i: how often the row is halved. -/
def allb (g : Nat → Bool) (i : Nat) : Nat → Nat → Bool := Nat.rec (motive := fun _ => Nat → Nat → Bool) (fun N off => bitb g 4096 N off) (fun j ih N off => bif Nat.beq N 0 then true else ih (Nat.mod N (Nat.pow 2 (Nat.pow 2 (Nat.add j 12)))) off && ih (Nat.shiftRight N (Nat.pow 2 (Nat.add j 12))) (Nat.add off (Nat.pow 2 (Nat.add j 12)))) i
theorem allb_out (g : Nat → Bool) : ∀ i N off, allb g i N off = true → ∀ k, N.testBit k = true → g (off + k) = true
  | 0, N, off, h, k, hb => bitb_out g 4096 N off h k hb
  | i + 1, N, off, h, k, hb => by
    have h' : (bif Nat.beq N 0 then true else allb g i (N % 2 ^ 2 ^ (i + 12)) off && allb g i (N >>> 2 ^ (i + 12)) (off + 2 ^ (i + 12))) = true := h
    cases hN : Nat.beq N 0 with
    | true =>
      have := Nat.eq_of_beq_eq_true hN
      subst this
      simp at hb
    | false =>
      rw [hN] at h'
      simp only [cond_false, Bool.and_eq_true] at h'
      rcases Nat.lt_or_ge k (2 ^ (i + 12)) with hlt | hge
      · refine allb_out g i _ off h'.1 k ?_
        rw [Nat.testBit_mod_two_pow]
        simp [hlt, hb]
      · have := allb_out g i _ (off + 2 ^ (i + 12)) h'.2 (k - 2 ^ (i + 12)) (by rw [Nat.testBit_shiftRight, show 2 ^ (i + 12) + (k - 2 ^ (i + 12)) = k by omega]; exact hb)
        rwa [show off + 2 ^ (i + 12) + (k - 2 ^ (i + 12)) = off + k by omega] at this
/-- One by one. -/
def dir (s L : Nat) (ms : List (Nat × Nat)) (g : Nat → Bool) (K : Nat) : Bool := Nat.rec (motive := fun _ => Bool) true (fun k ih => (bif ms.all (fun m => okm m.1 m.2 (Nat.add s (Nat.mul k L))) then g k else true) && ih) K
theorem dir_out (s L : Nat) (ms : List (Nat × Nat)) (g : Nat → Bool) : ∀ K, dir s L ms g K = true → ∀ k, k < K → (∀ m ∈ ms, okm m.1 m.2 (s + k * L) = true) → g k = true
  | 0, _, k, hk, _ => by omega
  | K + 1, h, k, hk, ho => by
    have h' : ((bif ms.all (fun m => okm m.1 m.2 (s + K * L)) then g K else true) && dir s L ms g K) = true := h
    rw [Bool.and_eq_true] at h'
    rcases Nat.lt_or_ge k K with hlt | hge
    · exact dir_out s L ms g K h'.2 k hlt ho
    · obtain rfl : k = K := by omega
      have : ms.all (fun m => okm m.1 m.2 (s + k * L)) = true := List.all_eq_true.2 ho
      rw [this] at h'
      exact h'.1
/-- Whatever stands in the row, where the tables have bits, meets g. -/
def ap (s L K : Nat) (ms : List (Nat × Nat)) (g : Nat → Bool) : Bool := bif Nat.ble K 24 then dir s L ms g K else allb g (Nat.sub (Nat.log2 K) 11) (sv s L K ms (Nat.sub (Nat.pow 2 K) 1)) 0
theorem ap_out {s L K : Nat} {ms : List (Nat × Nat)} {g : Nat → Bool} (h : ap s L K ms g = true) : ∀ k, k < K → (∀ m ∈ ms, okm m.1 m.2 (s + k * L) = true) → g k = true := by
  intro k hk ho
  have h' : (bif Nat.ble K 24 then dir s L ms g K else allb g (Nat.log2 K - 11) (sv s L K ms (2 ^ K - 1)) 0) = true := h
  cases hb : Nat.ble K 24 with
  | true => rw [hb] at h'; exact dir_out s L ms g K h' k hk ho
  | false =>
    rw [hb, cond_false] at h'
    have := allb_out g _ _ 0 h' k (sv_bit s L K k hk ms _ ho (by rw [Nat.testBit_two_pow_sub_one]; simpa using hk))
    rwa [Nat.zero_add] at this
end Go.Proofs.YtlhjbllfcbojmaaDoor.NT
